/- A disk in its box: four cells set at once; what is kept beside. -/
import Derived.Test.YtcnhdmchoiiceaaRefCopy
namespace Go.Proofs.Ytcnhdmchoiiceaa
open Go.RowKit
/-- The four cells of a block, set. -/
def set4 (w : World) (X : Nat) (a b c d : Value) : World := (((w.setCell ⟨X, 0, none⟩ a).setCell ⟨X, 1, none⟩ b).setCell ⟨X, 2, none⟩ c).setCell ⟨X, 3, none⟩ d
section
variable {w w0 : World} {X N : Nat} {a b c d : Value}
theorem Blk.set4 {v0 v1 v2 v3 : Value} {t : TypeId} (h : Blk w X [v0, v1, v2, v3] t) (a b c d : Value) : Blk (set4 w X a b c d) X [a, b, c, d] t := (((h.set 0 a).set 1 b).set 2 c).set 3 d
theorem Blk.far4 {g : Nat} {l : List Value} {t : TypeId} (h : Blk w g l t) (hX : g ≠ X) (a b c d : Value) : Blk (Go.Proofs.Ytcnhdmchoiiceaa.set4 w X a b c d) g l t :=
  (((h.far (p := ⟨X, 0, none⟩) hX a).far (p := ⟨X, 1, none⟩) hX b).far (p := ⟨X, 2, none⟩) hX c).far (p := ⟨X, 3, none⟩) hX d
theorem own_far4 {base : Nat} {e : TypeId} {size n : Nat} {v : Value} {xs : List Value} (h : w.ownsRow base e size v n xs) (hX : v.ownBlock ≠ some X) (a b c d : Value) : (set4 w X a b c d).ownsRow base e size v n xs :=
  own_far (own_far (own_far (own_far h (p := ⟨X, 0, none⟩) hX a) (p := ⟨X, 1, none⟩) hX b) (p := ⟨X, 2, none⟩) hX c) (p := ⟨X, 3, none⟩) hX d
theorem below4 (h : Below N w0 w) (hX : N ≤ X) (a b c d : Value) : Below N w0 (set4 w X a b c d) :=
  (((h.setCell (p := ⟨X, 0, none⟩) hX a).setCell (p := ⟨X, 1, none⟩) hX b).setCell (p := ⟨X, 2, none⟩) hX c).setCell (p := ⟨X, 3, none⟩) hX d
theorem size4 (a b c d : Value) : (set4 w X a b c d).heap.size = w.heap.size := by simp [set4]
end
/-- A disk's two rows of one's own. -/
structure Own2 (w : World) (M : Nat) (B1 : Option Addr) (e1 : Nat) (B2 : Option Addr) (e2 : Nat) (S : List ByteArray) (P : List Wr) : Prop where
  own1 : w.ownsRow M 9 1 (.slice B1 S.length e1) S.length (strs S)
  own2 : w.ownsRow M 43 2 (.slice B2 P.length e2) P.length (wrs P)
section
variable {w w' : World} {M : Nat} {B1 B2 : Option Addr} {e1 e2 : Nat} {S : List ByteArray} {P : List Wr}
theorem Own2.below (h : Own2 w M B1 e1 B2 e2 S P) (hb : Below w.heap.size w w') : Own2 w' M B1 e1 B2 e2 S P := ⟨own_below h.own1 hb, own_below h.own2 hb⟩
theorem Own2.alloc (h : Own2 w M B1 e1 B2 e2 S P) (o : Obj) : Own2 (w.alloc o) M B1 e1 B2 e2 S P := ⟨h.own1.alloc o, h.own2.alloc o⟩
theorem Own2.set4 {X : Nat} {l : List Value} (h : Own2 w M B1 e1 B2 e2 S P) (hX : Blk w X l 25) (a b c d : Value) : Own2 (set4 w X a b c d) M B1 e1 B2 e2 S P :=
  ⟨own_far4 h.own1 (own_blk_ne h.own1 hX (by decide)) a b c d, own_far4 h.own2 (own_blk_ne h.own2 hX (by decide)) a b c d⟩
theorem Own2.far {p : Addr} {l : List Value} (h : Own2 w M B1 e1 B2 e2 S P) (hX : Blk w p.block l 25) (u : Value) : Own2 (w.setCell p u) M B1 e1 B2 e2 S P :=
  ⟨own_far h.own1 (own_blk_ne h.own1 hX (by decide)) u, own_far h.own2 (own_blk_ne h.own2 hX (by decide)) u⟩
theorem Own2.is (h : Own2 w M B1 e1 B2 e2 S P) (off : Bool) (f : Int) (hl1 : S.length ≤ 140737488351232) (hl2 : P.length ≤ 140737488351232) (hf1 : -9223372036854775808 ≤ f) (hf2 : f ≤ 9223372036854775807) :
    DkIs w (.agg #[.slice B1 S.length e1, .slice B2 P.length e2, .bool off, .int .i64 f]) ⟨S, P, off, f⟩ := by
  obtain ⟨A1, c1, x1, _, _, t1, _⟩ := Lies.of_own h.own1
  obtain ⟨A2, c2, x2, _, _, t2, _⟩ := Lies.of_own h.own2
  cases x1
  cases x2
  exact ⟨_, _, _, _, rfl, t1, t2, hl1, hl2, hf1, hf2⟩
end
/-- The copy, laid into its box. -/
theorem boxed {w W : World} {N M : Nat} {B1 B2 : Option Addr} {e1 e2 : Nat} {S : List ByteArray} {P : List Wr} {v0 v1 v2 v3 : Value} {l : List Value} (k1 : Blk W N [v0, v1, v2, v3] 25) (k2 : Blk W (N + 1) l 25) (o : Own2 W M B1 e1 B2 e2 S P) (hb : Below N w W) (a b c d : Value) :
    Blk (set4 W N a b c d) N [a, b, c, d] 25 ∧ Blk (set4 W N a b c d) (N + 1) l 25 ∧ Own2 (set4 W N a b c d) M B1 e1 B2 e2 S P ∧ Below N w (set4 W N a b c d) :=
  ⟨k1.set4 _ _ _ _, k2.far4 (by omega) _ _ _ _, o.set4 k1 _ _ _ _, below4 hb (Nat.le_refl _) _ _ _ _⟩
/-- The disk, laid into the answer's own cell. -/
theorem answered {w W : World} {N M g : Nat} {B1 B2 : Option Addr} {e1 e2 : Nat} {S : List ByteArray} {P : List Wr} {l : List Value} (o : Own2 W M B1 e1 B2 e2 S P) (hR : Blk W g l 25) (hb : Below N w W) (hN : N ≤ g) (off : Bool) (f : Int)
    (hl1 : S.length ≤ 140737488351232) (hl2 : P.length ≤ 140737488351232) (hf1 : -9223372036854775808 ≤ f) (hf2 : f ≤ 9223372036854775807) (a b c d : Value) :
    DkIs (set4 W g a b c d) (.agg #[.slice B1 S.length e1, .slice B2 P.length e2, .bool off, .int .i64 f]) ⟨S, P, off, f⟩ ∧ Below N w (set4 W g a b c d) :=
  ⟨(o.set4 hR a b c d).is off f hl1 hl2 hf1 hf2, below4 hb hN a b c d⟩
theorem lies_new (w : World) (vs : List Value) (t : TypeId) {n size : Nat} (h : vs.length = n * size) : Lies (w.alloc (.cells vs.toArray t)) (some ⟨w.heap.size, 0, none⟩) n size vs :=
  ⟨h, fun _ => ⟨_, _, rfl, fun j u hu => by rw [(Blk.new w vs t).cell, Nat.zero_add]; exact hu⟩⟩
/-- A write more. -/
theorem pushed {w W w1 : World} {N M : Nat} {B1 B2 B3 : Option Addr} {e1 e2 e3 : Nat} {S : List ByteArray} {P : List Wr} {v0 v1 v2 v3 : Value} {l : List Value} {o : Obj} (x : Wr) (k1 : Blk W N [v0, v1, v2, v3] 25) (k2 : Blk W (N + 1) l 25) (ho : Own2 W M B1 e1 B2 e2 S P)
    (hb : Below N w W) (hN : N + 1 < M) (hM : M ≤ W.heap.size) (own : w1.ownsRow M 43 2 (.slice B3 (P.length + 1) e3) (P.length + 1) (wrs P ++ [.int .i64 x.sec, .string x.data])) (hg : (W.alloc o).grownBy w1 (Value.slice B2 P.length e2).ownBlock) :
    (w1.frozen? ⟨N, 1, none⟩ = false ∧ w1.cell? ⟨N, 1, none⟩ = some v1) ∧ Blk (w1.setCell ⟨N, 1, none⟩ (.slice B3 (P.length + 1) e3)) N [v0, .slice B3 (P ++ [x]).length e3, v2, v3] 25 ∧ Blk (w1.setCell ⟨N, 1, none⟩ (.slice B3 (P.length + 1) e3)) (N + 1) l 25 ∧
    Own2 (w1.setCell ⟨N, 1, none⟩ (.slice B3 (P.length + 1) e3)) M B1 e1 B3 e3 S (P ++ [x]) ∧ Below N w (w1.setCell ⟨N, 1, none⟩ (.slice B3 (P.length + 1) e3)) ∧ M ≤ (w1.setCell ⟨N, 1, none⟩ (.slice B3 (P.length + 1) e3)).heap.size := by
  have k1' := k1.alloc o
  have k2' := k2.alloc o
  have ho' := ho.alloc o
  have m1 : Blk w1 N [v0, v1, v2, v3] 25 := (hg.block N k1'.lt (Ne.symm (own_blk_ne ho'.own2 k1' (by decide)))).trans k1'
  have m2 : Blk w1 (N + 1) l 25 := (hg.block (N + 1) k2'.lt (Ne.symm (own_blk_ne ho'.own2 k2' (by decide)))).trans k2'
  have hbw : Below N w w1 := (hb.alloc (by omega) o).grown hg (by simp; omega) (fun k hk => by have := ho.own2.lt k hk; omega)
  have s1 := ho'.own1.kept hg (own_ne ho'.own1 ho'.own2 (by decide))
  have hsz : (W.alloc o).heap.size ≤ w1.heap.size := hg.size
  refine ⟨⟨m1.free 1, m1.cell 1⟩, ?_, m2.far (p := ⟨N, 1, none⟩) (by simp) _, ⟨own_far s1 (p := ⟨N, 1, none⟩) (own_blk_ne s1 m1 (by decide)) _, ?_⟩, hbw.setCell (p := ⟨N, 1, none⟩) (Nat.le_refl _) _, ?_⟩
  · have := m1.set 1 (.slice B3 (P.length + 1) e3)
    simpa using this
  · have := own_far own (p := ⟨N, 1, none⟩) (own_blk_ne own m1 (by decide)) (.slice B3 (P.length + 1) e3)
    simp only [List.length_append, List.length_cons, List.length_nil, wrs_append]
    exact this
  · simp at hsz ⊢; omega
end Go.Proofs.Ytcnhdmchoiiceaa
