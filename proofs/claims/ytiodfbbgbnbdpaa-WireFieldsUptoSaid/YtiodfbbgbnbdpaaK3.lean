/- Three bytes in variables of their own that are made in any order, beside a writer. -/
import Derived.Test.YtiodfbbgbnbdpaaWTexts0
import Derived.Test.YtiodfbbgbnbdpaaFlat5
namespace Go.Proofs.Ytiodfbbgbnbdpaa
set_option linter.unusedVariables false
open Go.RowKit
open Crc
/-- A cell of a block that is protected is stored to. -/
theorem BuT.setP {T : TypeId} {ex : List Value} {B b k i : Nat} {P : Nat → Prop} {bs : List Value} {u : World} {v : Value} (h : BuT T ex B b P bs u) (hk : P k) (hs : Small (u.setCell ⟨k, i, none⟩ v) k) : BuT T ex B b P bs (u.setCell ⟨k, i, none⟩ v) := by
  obtain ⟨h1, p, v0, h2, h3, h4, h5, h6, h7⟩ := h
  have hkb := (h7 k hk).2.1
  have hrow := (h7 k hk).2.2.2
  have hne : ∀ j, j ≠ k → (u.setCell ⟨k, i, none⟩ v).heap[j]? = u.heap[j]? := fun j hj => Below.heap_setCell _ _ _ _ hj
  refine ⟨h1, p, v0, h2, (hne b (Ne.symm hkb)).trans h3, ⟨h4.1, ?_⟩, h5, h6, fun j hj => ?_⟩
  · rcases h4.2 with h' | ⟨g, cap, cur, hv, hg, hh, h'⟩
    · exact .inl h'
    · exact .inr ⟨g, cap, cur, hv, hg, (hne g (fun e => hrow (by rw [hv, ← e]; rfl))).trans hh, h'⟩
  · obtain ⟨a1, a2, a3, a4⟩ := h7 j hj
    refine ⟨by rw [World.size_setCell]; exact a1, a2, ?_, a4⟩
    by_cases hjk : j = k
    · subst hjk; exact hs
    · exact fun cs fz hc => a3 cs fz ((hne j hjk).symm.trans hc)
theorem small_blk1 {w : World} {k : Nat} {x : Value} {t : TypeId} (h : Blk w k [x] t) : Small w k := fun cs fz hc => by
  have h' : w.heap[k]? = some (.cells [x].toArray t (0, 0)) := h
  rw [h'] at hc
  injection hc with hc
  injection hc with e
  subst e
  simp
def Kc (w : World) (P' : Nat → Prop) (x c : Value) (u : World) : Prop := ∀ k, x = .pointer (some ⟨k, 0, none⟩) → P' k ∧ w.heap.size ≤ k ∧ Blk u k [c] 5
def Ka (x y : Value) : Prop := ∀ k, x = .pointer (some ⟨k, 0, none⟩) → y ≠ .pointer (some ⟨k, 0, none⟩)
def K3 (w : World) (B g : Nat) (bs : List UInt8) (bad : Bool) (P : Nat → Prop) (c1 c2 c3 x1 x2 x3 : Value) (u : World) : Prop :=
  ∃ P' : Nat → Prop, Wr B g P' bs bad u ∧ (∀ k, P k → P' k) ∧ KP B P w u ∧ (Kc w P' x1 c1 u ∧ Kc w P' x2 c2 u ∧ Kc w P' x3 c3 u) ∧ Ka x1 x2 ∧ Ka x1 x3 ∧ Ka x2 x3
section
variable {w u : World} {B g : Nat} {bs : List UInt8} {bad : Bool} {P P' : Nat → Prop} {c1 c2 c3 x1 x2 x3 x c y : Value}
theorem Kc.alloc (h : Kc w P' x c u) : Kc w (fun i => P' i ∨ i = u.heap.size) x c (u.alloc (.cells #[.int .u8 0] 5)) := fun k hk => by
  obtain ⟨a, b, d⟩ := h k hk
  exact ⟨.inl a, b, d.alloc _⟩
theorem Kc.new (hw : w.heap.size ≤ u.heap.size) : Kc w (fun i => P' i ∨ i = u.heap.size) (.pointer (some ⟨u.heap.size, 0, none⟩)) (.int .u8 0) (u.alloc (.cells #[.int .u8 0] 5)) := fun k hk => by
  obtain rfl : u.heap.size = k := by simpa using hk
  exact ⟨.inr rfl, hw, Blk.new u _ _⟩
theorem Kc.ne (h : Kc w P' x c u) : ∀ k, x = .pointer (some ⟨k, 0, none⟩) → k < u.heap.size := fun k hk => (h k hk).2.2.lt
theorem Ka.new1 (h : Kc w P' x c u) : Ka (.pointer (some ⟨u.heap.size, 0, none⟩)) x := fun k hk hx => by
  obtain rfl : u.heap.size = k := by simpa using hk
  exact Nat.lt_irrefl _ (h.ne _ hx)
theorem Ka.new2 (h : Kc w P' x c u) : Ka x (.pointer (some ⟨u.heap.size, 0, none⟩)) := fun k hx hk => by
  obtain rfl : u.heap.size = k := by simpa using hk
  exact Nat.lt_irrefl _ (h.ne _ hx)
theorem Kc.far {k : Nat} (h : Kc w P' x c u) (hne : x ≠ .pointer (some ⟨k, 0, none⟩)) (v : Value) : Kc w P' x c (u.setCell ⟨k, 0, none⟩ v) := fun j hj => by
  obtain ⟨a, b, d⟩ := h j hj
  exact ⟨a, b, d.far (p := ⟨k, 0, none⟩) (fun e => hne (by rw [hj, e])) v⟩
theorem Kc.set {k : Nat} (h : Kc w P' (.pointer (some ⟨k, 0, none⟩)) c u) (v : Value) : Kc w P' (.pointer (some ⟨k, 0, none⟩)) v (u.setCell ⟨k, 0, none⟩ v) := fun j hj => by
  obtain rfl : k = j := by simpa using hj
  obtain ⟨a, b, d⟩ := h k rfl
  exact ⟨a, b, d.set 0 v⟩
theorem K3.alloc1 (h : K3 w B g bs bad P (.int .u8 0) c2 c3 x1 x2 x3 u) : K3 w B g bs bad P (.int .u8 0) c2 c3 (.pointer (some ⟨u.heap.size, 0, none⟩)) x2 x3 (u.alloc (.cells #[.int .u8 0] 5)) := by
  obtain ⟨P', h1, h2, h3, ⟨hc1, hc2, hc3⟩, ha12, ha13, ha23⟩ := h
  have hw := h3.size
  have hB := h1.isP.2
  exact ⟨fun i => P' i ∨ i = u.heap.size, BuT.add h1 (below_alloc u _) (Nat.le_refl _) (by simp) (small_one u _), fun k hk => .inl (h2 k hk), h3.trans (KP.of (below_alloc u _) hB (fun k hk => h1.isP.1 k (h2 k hk))), ⟨Kc.new hw, (hc2).alloc, (hc3).alloc⟩, Ka.new1 hc2, Ka.new1 hc3, ha23⟩
theorem K3.store1 {k : Nat} (h : K3 w B g bs bad P c1 c2 c3 (.pointer (some ⟨k, 0, none⟩)) x2 x3 u) (hP : ∀ j, P j → j < w.heap.size) (hB : B ≤ w.heap.size) (y : Value) : K3 w B g bs bad P y c2 c3 (.pointer (some ⟨k, 0, none⟩)) x2 x3 (u.setCell ⟨k, 0, none⟩ y) := by
  obtain ⟨P', h1, h2, h3, ⟨hc1, hc2, hc3⟩, ha12, ha13, ha23⟩ := h
  obtain ⟨a1, a2, a3⟩ := hc1 k rfl
  exact ⟨P', BuT.setP h1 a1 (small_blk1 (a3.set 0 y)), h2, h3.set (by omega : B ≤ k) (fun j hj => by have := hP j hj; omega) 0 y, ⟨hc1.set y, hc2.far (ha12 k rfl) y, hc3.far (ha13 k rfl) y⟩, ha12, ha13, ha23⟩
theorem K3.alloc2 (h : K3 w B g bs bad P c1 (.int .u8 0) c3 x1 x2 x3 u) : K3 w B g bs bad P c1 (.int .u8 0) c3 x1 (.pointer (some ⟨u.heap.size, 0, none⟩)) x3 (u.alloc (.cells #[.int .u8 0] 5)) := by
  obtain ⟨P', h1, h2, h3, ⟨hc1, hc2, hc3⟩, ha12, ha13, ha23⟩ := h
  have hw := h3.size
  have hB := h1.isP.2
  exact ⟨fun i => P' i ∨ i = u.heap.size, BuT.add h1 (below_alloc u _) (Nat.le_refl _) (by simp) (small_one u _), fun k hk => .inl (h2 k hk), h3.trans (KP.of (below_alloc u _) hB (fun k hk => h1.isP.1 k (h2 k hk))), ⟨(hc1).alloc, Kc.new hw, (hc3).alloc⟩, Ka.new2 hc1, ha13, Ka.new1 hc3⟩
theorem K3.store2 {k : Nat} (h : K3 w B g bs bad P c1 c2 c3 x1 (.pointer (some ⟨k, 0, none⟩)) x3 u) (hP : ∀ j, P j → j < w.heap.size) (hB : B ≤ w.heap.size) (y : Value) : K3 w B g bs bad P c1 y c3 x1 (.pointer (some ⟨k, 0, none⟩)) x3 (u.setCell ⟨k, 0, none⟩ y) := by
  obtain ⟨P', h1, h2, h3, ⟨hc1, hc2, hc3⟩, ha12, ha13, ha23⟩ := h
  obtain ⟨a1, a2, a3⟩ := hc2 k rfl
  exact ⟨P', BuT.setP h1 a1 (small_blk1 (a3.set 0 y)), h2, h3.set (by omega : B ≤ k) (fun j hj => by have := hP j hj; omega) 0 y, ⟨hc1.far (fun e => ha12 k e rfl) y, hc2.set y, hc3.far (ha23 k rfl) y⟩, ha12, ha13, ha23⟩
theorem K3.alloc3 (h : K3 w B g bs bad P c1 c2 (.int .u8 0) x1 x2 x3 u) : K3 w B g bs bad P c1 c2 (.int .u8 0) x1 x2 (.pointer (some ⟨u.heap.size, 0, none⟩)) (u.alloc (.cells #[.int .u8 0] 5)) := by
  obtain ⟨P', h1, h2, h3, ⟨hc1, hc2, hc3⟩, ha12, ha13, ha23⟩ := h
  have hw := h3.size
  have hB := h1.isP.2
  exact ⟨fun i => P' i ∨ i = u.heap.size, BuT.add h1 (below_alloc u _) (Nat.le_refl _) (by simp) (small_one u _), fun k hk => .inl (h2 k hk), h3.trans (KP.of (below_alloc u _) hB (fun k hk => h1.isP.1 k (h2 k hk))), ⟨(hc1).alloc, (hc2).alloc, Kc.new hw⟩, ha12, Ka.new2 hc1, Ka.new2 hc2⟩
theorem K3.store3 {k : Nat} (h : K3 w B g bs bad P c1 c2 c3 x1 x2 (.pointer (some ⟨k, 0, none⟩)) u) (hP : ∀ j, P j → j < w.heap.size) (hB : B ≤ w.heap.size) (y : Value) : K3 w B g bs bad P c1 c2 y x1 x2 (.pointer (some ⟨k, 0, none⟩)) (u.setCell ⟨k, 0, none⟩ y) := by
  obtain ⟨P', h1, h2, h3, ⟨hc1, hc2, hc3⟩, ha12, ha13, ha23⟩ := h
  obtain ⟨a1, a2, a3⟩ := hc3 k rfl
  exact ⟨P', BuT.setP h1 a1 (small_blk1 (a3.set 0 y)), h2, h3.set (by omega : B ≤ k) (fun j hj => by have := hP j hj; omega) 0 y, ⟨hc1.far (fun e => ha13 k e rfl) y, hc2.far (fun e => ha23 k e rfl) y, hc3.set y⟩, ha12, ha13, ha23⟩
end
end Go.Proofs.Ytiodfbbgbnbdpaa
