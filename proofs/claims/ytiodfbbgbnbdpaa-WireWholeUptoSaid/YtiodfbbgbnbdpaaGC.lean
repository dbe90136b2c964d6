/- Several small texts of this proof, one behind the other. -/
import Derived.Test.YtiodfbbgbnbdpaaCrcB
import Derived.Laws.StructEq
import Derived.Test.YtiodfbbgbnbdpaaGA
section
/- Requests and replies as bytes, in plain Lean: what is taken from bytes. -/
namespace Go.Proofs.Ytiodfbbgbnbdpaa
open Go.RowKit
open Crc
set_option linter.unusedVariables false
/-- What is left of bytes; b: something was not there. -/
structure Lf where
  l : List UInt8
  b : Bool
def takeL (x : Lf) (n : Nat) : List UInt8 × Lf := if x.b = true ∨ x.l.length < n then ([], ⟨x.l, true⟩) else (x.l.take n, ⟨x.l.drop n, false⟩)
def byteL (x : Lf) : UInt8 × Lf := ((takeL x 1).1.headD 0, (takeL x 1).2)
def longL (x : Lf) : Nat × Lf := (gotN 8 (takeL x 8).1, (takeL x 8).2)
def textN (x : Lf) : Nat := gotN 4 (takeL x 4).1
def textL (x : Lf) : List UInt8 × Lf := takeL ⟨(takeL x 4).2.l, (takeL x 4).2.b || decide (2048 < textN x)⟩ (textN x)
theorem takeL_no {x : Lf} {n : Nat} (h : x.b = true ∨ x.l.length < n) : takeL x n = ([], ⟨x.l, true⟩) := if_pos h
theorem takeL_yes {x : Lf} {n : Nat} (h1 : x.b = false) (h2 : n ≤ x.l.length) : takeL x n = (x.l.take n, ⟨x.l.drop n, false⟩) := if_neg (by simp [h1]; omega)
theorem takeL_len (x : Lf) (n : Nat) : (takeL x n).1.length ≤ x.l.length ∧ (takeL x n).2.l.length ≤ x.l.length := by
  unfold takeL
  split <;> simp
  omega
theorem takeL_le (x : Lf) (n : Nat) : (takeL x n).1.length ≤ n := by
  unfold takeL
  split <;> simp
  omega
theorem gotN_lt {l : List UInt8} : gotN 4 l < 4294967296 := by
  unfold gotN
  split
  · rename_i h
    have := getL_lt l
    rw [h] at this
    exact this
  · decide
theorem gotN8_lt {l : List UInt8} : gotN 8 l < 18446744073709551616 := by
  unfold gotN
  split
  · rename_i h
    have := getL_lt l
    rw [h] at this
    exact this
  · decide
/-! ### The frame: but for block g, what was stands. -/
def Kp (g : Nat) (w w' : World) : Prop := (∀ k, k < w.heap.size → k ≠ g → w'.heap[k]? = w.heap[k]?) ∧ Below g w w'
/-- But for blocks g and A, what was stands. -/
def Kp2 (B g A : Nat) (w w' : World) : Prop := (∀ k, k < w.heap.size → k ≠ g → k ≠ A → w'.heap[k]? = w.heap[k]?) ∧ Below B w w'
section
variable {B g A : Nat} {w w' u : World}
theorem Kp.refl (g : Nat) (w : World) : Kp g w w := ⟨fun _ _ _ => rfl, Below.refl _ _⟩
theorem Kp.size (h : Kp g w w') : w.heap.size ≤ w'.heap.size := h.2.size
theorem Kp.trans (h : Kp g w w') (k : Kp g w' u) : Kp g w u := ⟨fun i hi hn => (k.1 i (Nat.lt_of_lt_of_le hi h.size) hn).trans (h.1 i hi hn), h.2.trans k.2⟩
theorem Kp.of (hb : Below w.heap.size w w') (hg : g ≤ w.heap.size) : Kp g w w' := ⟨fun k hk _ => hb.block k hk, hb.mono hg⟩
theorem Kp.alloc (h : Kp g w w') (hg : g ≤ w.heap.size) (o : Obj) : Kp g w (w'.alloc o) := h.trans (Kp.of (below_alloc _ _) (Nat.le_trans hg h.size))
theorem Kp.set (h : Kp g w w') (i : Nat) (v : Value) : Kp g w (w'.setCell ⟨g, i, none⟩ v) := ⟨fun k hk hn => (Below.heap_setCell _ _ _ _ hn).trans (h.1 k hk hn), h.2.setCell (p := ⟨g, i, none⟩) (Nat.le_refl _) v⟩
theorem Blk.kp {k : Nat} {vs : List Value} {t : TypeId} (h : Blk w k vs t) (hk : Kp g w w') (hne : k ≠ g) : Blk w' k vs t := (hk.1 k h.lt hne).trans h
theorem Kp2.refl (B g A : Nat) (w : World) : Kp2 B g A w w := ⟨fun _ _ _ _ => rfl, Below.refl _ _⟩
theorem Kp2.size (h : Kp2 B g A w w') : w.heap.size ≤ w'.heap.size := h.2.size
theorem Kp2.trans (h : Kp2 B g A w w') (k : Kp2 B g A w' u) : Kp2 B g A w u := ⟨fun i hi hn ha => (k.1 i (Nat.lt_of_lt_of_le hi h.size) hn ha).trans (h.1 i hi hn ha), h.2.trans k.2⟩
theorem Kp2.of (hb : Below w.heap.size w w') (hB : B ≤ w.heap.size) : Kp2 B g A w w' := ⟨fun k hk _ _ => hb.block k hk, hb.mono hB⟩
theorem Kp.two (h : Kp g w w') (hB : B ≤ g) : Kp2 B g A w w' := ⟨fun k hk hn _ => h.1 k hk hn, h.2.mono hB⟩
theorem Kp2.set (h : Kp2 B g A w w') (hA : B ≤ A) (i : Nat) (v : Value) : Kp2 B g A w (w'.setCell ⟨A, i, none⟩ v) := ⟨fun k hk hn ha => (Below.heap_setCell _ _ _ _ ha).trans (h.1 k hk hn ha), h.2.setCell (p := ⟨A, i, none⟩) hA v⟩
theorem Kp2.setg (h : Kp2 B g A w w') (hg : B ≤ g) (i : Nat) (v : Value) : Kp2 B g A w (w'.setCell ⟨g, i, none⟩ v) := ⟨fun k hk hn ha => (Below.heap_setCell _ _ _ _ hn).trans (h.1 k hk hn ha), h.2.setCell (p := ⟨g, i, none⟩) hg v⟩
theorem Kp2.drew (h : Kp2 B g A w w') : Kp2 B g A w w'.drew := ⟨h.1, Below.drew h.2⟩
theorem Blk.kp2 {k : Nat} {vs : List Value} {t : TypeId} (h : Blk w k vs t) (hk : Kp2 B g A w w') (hne : k ≠ g) (ha : k ≠ A) : Blk w' k vs t := (hk.1 k h.lt hne ha).trans h
end
end Go.Proofs.Ytiodfbbgbnbdpaa
end
section
/- Changes and requests: their cells; when two are one. -/
namespace Go.Proofs.Ytiodfbbgbnbdpaa
open Go.RowKit
structure Chg where
  k : UInt8
  id : ByteArray
  tx : ByteArray
  ut : ByteArray
  ui : ByteArray
deriving DecidableEq
structure Ask where
  k : UInt8
  n : Nat
  c : Chg
  v : Nat
  ts : List ByteArray
deriving DecidableEq
def e0 : ByteArray := ⟨#[]⟩
def chg0 : Chg := ⟨0, e0, e0, e0, e0⟩
def chCells (c : Chg) : List Value := [.int .u8 (c.k.toNat : Int), .string c.id, .string c.tx, .string c.ut, .string c.ui]
def askHead (a : Ask) : List Value := [.int .u8 (a.k.toNat : Int), .int .u64 (a.n : Int), .int .u8 (a.c.k.toNat : Int), .string a.c.id, .string a.c.tx, .string a.c.ut, .string a.c.ui, .int .u64 (a.v : Int)]
def askCells (a : Ask) : List Value := askHead a ++ strs a.ts
theorem text_iff (a b : ByteArray) : a.toList = b.toList ↔ a = b := by
  rw [ByteArray.toList_eq, ByteArray.toList_eq]
  cases a; cases b
  simp
theorem u8_iff (a b : UInt8) : ((a.toNat : Int) = (b.toNat : Int)) ↔ a = b := by
  rw [Int.natCast_inj, UInt8.toNat_inj]
theorem ch_eq (c d : Chg) (W : World) : (binOp .eql 28 (.agg (chCells c).toArray) (.agg (chCells d).toArray)).run Try.prog W = .ok (.bool (decide (c = d))) W := by
  obtain ⟨k, id, tx, ut, ui⟩ := c
  obtain ⟨k', id', tx', ut', ui'⟩ := d
  unfold chCells
  simp only [Chg.mk.injEq]
  simp [go_sem, text_iff, u8_iff]
  repeat' (split; rename_i h; subst h)
  all_goals (try simp_all)
set_option maxHeartbeats 1000000 in
theorem ask_neq (a b : Ask) (W : World) (ha : a.ts.length = 7) (hb : b.ts.length = 7) : (binOp .neq 30 (.agg (askCells a).toArray) (.agg (askCells b).toArray)).run Try.prog W = .ok (.bool (!decide (a = b))) W := by
  obtain ⟨k, n, ⟨ck, id, tx, ut, ui⟩, v, ts⟩ := a
  obtain ⟨k', n', ⟨ck', id', tx', ut', ui'⟩, v', ts'⟩ := b
  simp only at ha hb
  match ts, ha with
  | [a1, a2, a3, a4, a5, a6, a7], _ =>
  match ts', hb with
  | [b1, b2, b3, b4, b5, b6, b7], _ =>
  unfold askCells askHead strs
  simp only [Ask.mk.injEq, Chg.mk.injEq, List.cons.injEq, and_true, List.map_cons, List.map_nil, List.cons_append, List.nil_append]
  simp [go_sem, text_iff, Int.natCast_inj, UInt8.toNat_inj]
  refine dite (k = k') (fun h => ?_) (fun h => by simp [h])
  subst h
  rw [if_pos rfl]
  refine dite (n = n') (fun h => ?_) (fun h => by simp [h])
  subst h
  rw [if_pos rfl]
  refine dite (ck = ck') (fun h => ?_) (fun h => by simp [h])
  subst h
  rw [if_pos rfl]
  refine dite (id = id') (fun h => ?_) (fun h => by simp [h])
  subst h
  rw [if_pos rfl]
  refine dite (tx = tx') (fun h => ?_) (fun h => by simp [h])
  subst h
  rw [if_pos rfl]
  refine dite (ut = ut') (fun h => ?_) (fun h => by simp [h])
  subst h
  rw [if_pos rfl]
  refine dite (ui = ui') (fun h => ?_) (fun h => by simp [h])
  subst h
  rw [if_pos rfl]
  refine dite (v = v') (fun h => ?_) (fun h => by simp [h])
  subst h
  rw [if_pos rfl]
  refine dite (a1 = b1) (fun h => ?_) (fun h => by simp [h])
  subst h
  rw [if_pos rfl]
  refine dite (a2 = b2) (fun h => ?_) (fun h => by simp [h])
  subst h
  rw [if_pos rfl]
  refine dite (a3 = b3) (fun h => ?_) (fun h => by simp [h])
  subst h
  rw [if_pos rfl]
  refine dite (a4 = b4) (fun h => ?_) (fun h => by simp [h])
  subst h
  rw [if_pos rfl]
  refine dite (a5 = b5) (fun h => ?_) (fun h => by simp [h])
  subst h
  rw [if_pos rfl]
  refine dite (a6 = b6) (fun h => ?_) (fun h => by simp [h])
  subst h
  rw [if_pos rfl]
  refine dite (a7 = b7) (fun h => ?_) (fun h => by simp [h])
  subst h
  rw [if_pos rfl]
  simp
end Go.Proofs.Ytiodfbbgbnbdpaa
end
section
/- What is taken from bytes: some texts, a change, changes; in plain Lean. -/
namespace Go.Proofs.Ytiodfbbgbnbdpaa
open Go.RowKit
open Crc
set_option linter.unusedVariables false
def chBare (c : Chg) : Chg := if c.k = 1 ∨ c.k = 4 then ⟨c.k, e0, c.tx, e0, e0⟩ else if c.k = 2 then ⟨c.k, c.id, c.tx, e0, e0⟩ else if c.k = 3 then ⟨c.k, c.id, e0, e0, e0⟩ else ⟨c.k, e0, e0, c.ut, c.ui⟩
def chRight (c : Chg) : Bool := decide (1 ≤ c.k.toNat ∧ c.k.toNat ≤ 5) && decide (c = chBare c)
/-- So many texts. -/
def textsL : Nat → Lf → List ByteArray × Lf
  | 0, x => ([], x)
  | n + 1, x => ((textsL n x).1 ++ [str (textL (textsL n x).2).1], (textL (textsL n x).2).2)
def chOf (k : UInt8) : List ByteArray → Chg
  | [a, b, c, d] => ⟨k, a, b, c, d⟩
  | _ => chg0
def chTake (x : Lf) : Chg := chOf (byteL x).1 (textsL 4 (byteL x).2).1
def chRest (x : Lf) : Lf := ⟨(textsL 4 (byteL x).2).2.l, (textsL 4 (byteL x).2).2.b || !chRight (chTake x)⟩
def chsL : Nat → Lf → List Chg × Lf
  | 0, x => ([], x)
  | n + 1, x => if x.b = true then ([], x) else (chTake x :: (chsL n (chRest x)).1, (chsL n (chRest x)).2)
theorem textsL_length (n : Nat) (x : Lf) : (textsL n x).1.length = n := by
  induction n with
  | zero => rfl
  | succ n ih => simp [textsL, ih]
theorem textL_len (x : Lf) : (textL x).2.l.length ≤ x.l.length := by
  unfold textL
  exact Nat.le_trans (takeL_len _ _).2 (takeL_len x 4).2
theorem textsL_len (n : Nat) (x : Lf) : (textsL n x).2.l.length ≤ x.l.length := by
  induction n with
  | zero => exact Nat.le_refl _
  | succ n ih => exact Nat.le_trans (textL_len _) ih
theorem byteL_len (x : Lf) : (byteL x).2.l.length ≤ x.l.length := (takeL_len x 1).2
theorem chRest_len (x : Lf) : (chRest x).l.length ≤ x.l.length := Nat.le_trans (textsL_len 4 _) (byteL_len x)
theorem chTake_cells (x : Lf) : chCells (chTake x) = .int .u8 ((byteL x).1.toNat : Int) :: strs (textsL 4 (byteL x).2).1 := by
  have h := textsL_length 4 (byteL x).2
  unfold chTake
  obtain ⟨y, hy⟩ := named (textsL 4 (byteL x).2)
  rw [← hy.out] at h ⊢
  match y, h with
  | ([a, b, c, d], z), _ => rfl
/-- The j-th of some texts is set. -/
theorem strs_fill (pre : List Value) (a : List ByteArray) (m : Nat) (t : ByteArray) : (pre ++ strs (a ++ List.replicate (m + 1) e0)).set (pre.length + a.length) (.string t) = pre ++ strs (a ++ [t] ++ List.replicate m e0) := by
  rw [List.set_append_right _ _ (by omega)]
  congr 1
  rw [Nat.add_sub_cancel_left, strs_append, strs_append, strs_append, List.set_append_right _ _ (by rw [strs_length]; exact Nat.le_refl _), strs_length, Nat.sub_self]
  simp [strs, List.replicate_succ]
def chsCells (l : List Chg) : List Value := l.flatMap chCells
theorem chsCells_append (a b : List Chg) : chsCells (a ++ b) = chsCells a ++ chsCells b := by simp [chsCells]
theorem chsCells_length (l : List Chg) : (chsCells l).length = l.length * 5 := by
  induction l with
  | nil => rfl
  | cons c l ih => simp only [chsCells, List.flatMap_cons, List.length_append, List.length_cons] at ih ⊢; rw [ih]; simp only [chCells, List.length_cons, List.length_nil]; omega
theorem Try.info28 : (Try.prog.info? 28).map (fun i => (i.zero, i.size, i.bytes)) = some (some (.agg #[.int .u8 0, .string ⟨#[]⟩, .string ⟨#[]⟩, .string ⟨#[]⟩, .string ⟨#[]⟩]), 5, 72) := by kernel_rfl
end Go.Proofs.Ytiodfbbgbnbdpaa
end
