/- A disk in a variable of the asker's: the box. -/
import Derived.Test.YtcnhdmchoiiceaaRefSet
namespace Go.Proofs.Ytcnhdmchoiiceaa
open Go.RowKit
/-- Block N is a variable that holds the disk d. -/
structure Box (w : World) (N : Nat) (A1 : Option Addr) (c1 : Nat) (A2 : Option Addr) (c2 : Nat) (d : Dk) : Prop where
  blk : Blk w N [.slice A1 d.secs.length c1, .slice A2 d.pend.length c2, .bool d.off, .int .i64 d.fuse] 25
  tx : Texts w A1 d.secs
  wr : Writes w A2 d.pend
  l1 : d.secs.length ≤ 140737488351232
  l2 : d.pend.length ≤ 140737488351232
  f1 : -9223372036854775808 ≤ d.fuse
  f2 : d.fuse ≤ 9223372036854775807
section
variable {w w' : World} {N : Nat} {A1 A2 : Option Addr} {c1 c2 : Nat} {d : Dk}
theorem Box.is (h : Box w N A1 c1 A2 c2 d) : DkIs w (.agg #[.slice A1 d.secs.length c1, .slice A2 d.pend.length c2, .bool d.off, .int .i64 d.fuse]) d := ⟨A1, c1, A2, c2, rfl, h.tx, h.wr, h.l1, h.l2, h.f1, h.f2⟩
theorem Box.below (h : Box w N A1 c1 A2 c2 d) (hb : Below w.heap.size w w') : Box w' N A1 c1 A2 c2 d := ⟨h.blk.below hb, h.tx.below hb, h.wr.below hb, h.l1, h.l2, h.f1, h.f2⟩
theorem Box.new (w : World) (h : DkIs w (.agg #[.slice A1 d.secs.length c1, .slice A2 d.pend.length c2, .bool d.off, .int .i64 d.fuse]) d) : Box (w.alloc (.cells #[.slice A1 d.secs.length c1, .slice A2 d.pend.length c2, .bool d.off, .int .i64 d.fuse] 25)) w.heap.size A1 c1 A2 c2 d := by
  obtain ⟨B1, e1, B2, e2, e, h1, h2, h3, h4, h5, h6⟩ := h
  simp only [Value.agg.injEq, Array.mk.injEq, List.cons.injEq, Value.slice.injEq, and_true, true_and] at e
  obtain ⟨⟨rfl, rfl⟩, rfl, rfl⟩ := e
  exact ⟨Blk.new w _ _, h1.below (below_alloc _ _), h2.below (below_alloc _ _), h3, h4, h5, h6⟩
theorem Box.alloc (h : Box w N A1 c1 A2 c2 d) (o : Obj) : Box (w.alloc o) N A1 c1 A2 c2 d := h.below (below_alloc _ _)
theorem Box.lt (h : Box w N A1 c1 A2 c2 d) : N < w.heap.size := h.blk.lt
end
/-- No text lies in a disk's block. -/
theorem strs_off {w : World} {A : Option Addr} {l : List ByteArray} {g : Nat} {t : TypeId} {a b : Option Addr} {p q r s : Nat} {u : Bool} {f : Int} (h : Texts w A l) (hg : Blk w g [.slice a p q, .slice b r s, .bool u, .int .i64 f] t) : strs l ≠ [] → ∀ x, A = some x → x.block ≠ g := by
  intro hn x hx e
  subst hx
  obtain ⟨k, o, e', hc⟩ := h.2 hn
  cases e'
  simp only at e
  subst e
  cases l with
  | nil => exact hn rfl
  | cons y l =>
    have h0 := hc 0 (.string y) rfl
    rw [hg.cell] at h0
    rcases Nat.lt_or_ge (o + 0) 4 with hlt | hge
    · rcases (show o + 0 = 0 ∨ o + 0 = 1 ∨ o + 0 = 2 ∨ o + 0 = 3 by omega) with e | e | e | e <;> rw [e] at h0 <;> simp at h0
    · rw [List.getElem?_eq_none (by simpa using hge)] at h0; cases h0
theorem wrs_off {w : World} {A : Option Addr} {l : List Wr} {g : Nat} {t : TypeId} {a b : Option Addr} {p q r s : Nat} {u : Bool} {f : Int} (h : Writes w A l) (hg : Blk w g [.slice a p q, .slice b r s, .bool u, .int .i64 f] t) : wrs l ≠ [] → ∀ x, A = some x → x.block ≠ g := by
  intro hn x hx e
  subst hx
  obtain ⟨k, o, e', hc⟩ := h.2 hn
  cases e'
  simp only at e
  subst e
  cases l with
  | nil => exact hn rfl
  | cons y l =>
    have h0 := hc 1 (.string y.data) rfl
    rw [hg.cell] at h0
    rcases Nat.lt_or_ge (o + 1) 4 with hlt | hge
    · rcases (show o + 1 = 0 ∨ o + 1 = 1 ∨ o + 1 = 2 ∨ o + 1 = 3 by omega) with e | e | e | e <;> rw [e] at h0 <;> simp at h0
    · rw [List.getElem?_eq_none (by simpa using hge)] at h0; cases h0
theorem lies_off {w : World} {A : Option Addr} {n size : Nat} {xs : List Value} (h : Lies w A n size xs) {p : Addr} (hp : xs ≠ [] → ∀ a, A = some a → a.block ≠ p.block) (u : Value) : Lies (w.setCell p u) A n size xs := by
  refine ⟨h.1, fun hn => ?_⟩
  obtain ⟨b, o, e, hc⟩ := h.2 hn
  exact ⟨b, o, e, fun j u' hu => (World.cell?_setCell_other w p _ u (fun e' => hp hn _ e (by rw [e']))).trans (hc j u' hu)⟩
theorem lies_off4 {w : World} {A : Option Addr} {n size X : Nat} {xs : List Value} (h : Lies w A n size xs) (hp : xs ≠ [] → ∀ a, A = some a → a.block ≠ X) (a b c d : Value) : Lies (set4 w X a b c d) A n size xs :=
  lies_off (lies_off (lies_off (lies_off h (p := ⟨X, 0, none⟩) hp a) (p := ⟨X, 1, none⟩) hp b) (p := ⟨X, 2, none⟩) hp c) (p := ⟨X, 3, none⟩) hp d
/-- Another disk is laid into the box. -/
theorem Box.set {w : World} {N : Nat} {A1 A2 B1 B2 : Option Addr} {c1 c2 e1 e2 : Nat} {d d' : Dk} (h : Box w N A1 c1 A2 c2 d) (t1 : Texts w B1 d'.secs) (t2 : Writes w B2 d'.pend) (l1 : d'.secs.length ≤ 140737488351232) (l2 : d'.pend.length ≤ 140737488351232) (f1 : -9223372036854775808 ≤ d'.fuse) (f2 : d'.fuse ≤ 9223372036854775807) :
    Box (set4 w N (.slice B1 d'.secs.length e1) (.slice B2 d'.pend.length e2) (.bool d'.off) (.int .i64 d'.fuse)) N B1 e1 B2 e2 d' :=
  ⟨h.blk.set4 _ _ _ _, lies_off4 t1 (strs_off t1 h.blk) _ _ _ _, lies_off4 t2 (wrs_off t2 h.blk) _ _ _ _, l1, l2, f1, f2⟩
/-- A box besides is left as it was. -/
theorem Box.far4 {w : World} {N X : Nat} {A1 A2 : Option Addr} {c1 c2 : Nat} {d : Dk} {a' b' : Option Addr} {p q r s : Nat} {u : Bool} {f : Int} (h : Box w N A1 c1 A2 c2 d) (hX : Blk w X [.slice a' p q, .slice b' r s, .bool u, .int .i64 f] 25) (hne : N ≠ X) (a b c e : Value) : Box (set4 w X a b c e) N A1 c1 A2 c2 d :=
  ⟨h.blk.far4 hne _ _ _ _, lies_off4 h.tx (strs_off h.tx hX) _ _ _ _, lies_off4 h.wr (wrs_off h.wr hX) _ _ _ _, h.l1, h.l2, h.f1, h.f2⟩
end Go.Proofs.Ytcnhdmchoiiceaa
