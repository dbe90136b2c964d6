/- What is taken from bytes: some texts, a change, changes; in plain Lean. -/
import Derived.Test.YtiodfbbgbnbdpaaWireEq
import Derived.Test.YtiodfbbgbnbdpaaInfo
namespace Go.Proofs.Ytiodfbbgbnbdpaa
open Go.RowKit
open Crc
set_option linter.unusedVariables false
def chBare (c : Chg) : Chg := if c.k = 1 ∨ c.k = 4 then ⟨c.k, e0, c.tx, e0, e0⟩ else if c.k = 2 then ⟨c.k, c.id, c.tx, e0, e0⟩ else if c.k = 3 then ⟨c.k, c.id, e0, e0, e0⟩ else ⟨c.k, e0, e0, c.ut, c.ui⟩
def chRight (c : Chg) : Bool := decide (1 ≤ c.k.toNat ∧ c.k.toNat ≤ 5) && decide (c = chBare c)
/-- So many texts. -/
def textsL : Nat → Lf → List ByteArray × Lf
  | 0, x => ([], x)
  | n + 1, x => ((textsL n x).1 ++ [str (textL (textsL n x).2).1], (textL (textsL n x).2).2)
def chOf (k : UInt8) : List ByteArray → Chg
  | [a, b, c, d] => ⟨k, a, b, c, d⟩
  | _ => chg0
def chTake (x : Lf) : Chg := chOf (byteL x).1 (textsL 4 (byteL x).2).1
def chRest (x : Lf) : Lf := ⟨(textsL 4 (byteL x).2).2.l, (textsL 4 (byteL x).2).2.b || !chRight (chTake x)⟩
def chsL : Nat → Lf → List Chg × Lf
  | 0, x => ([], x)
  | n + 1, x => if x.b = true then ([], x) else (chTake x :: (chsL n (chRest x)).1, (chsL n (chRest x)).2)
theorem textsL_length (n : Nat) (x : Lf) : (textsL n x).1.length = n := by
  induction n with
  | zero => rfl
  | succ n ih => simp [textsL, ih]
theorem textL_len (x : Lf) : (textL x).2.l.length ≤ x.l.length := by
  unfold textL
  exact Nat.le_trans (takeL_len _ _).2 (takeL_len x 4).2
theorem textsL_len (n : Nat) (x : Lf) : (textsL n x).2.l.length ≤ x.l.length := by
  induction n with
  | zero => exact Nat.le_refl _
  | succ n ih => exact Nat.le_trans (textL_len _) ih
theorem byteL_len (x : Lf) : (byteL x).2.l.length ≤ x.l.length := (takeL_len x 1).2
theorem chRest_len (x : Lf) : (chRest x).l.length ≤ x.l.length := Nat.le_trans (textsL_len 4 _) (byteL_len x)
theorem chTake_cells (x : Lf) : chCells (chTake x) = .int .u8 ((byteL x).1.toNat : Int) :: strs (textsL 4 (byteL x).2).1 := by
  have h := textsL_length 4 (byteL x).2
  unfold chTake
  obtain ⟨y, hy⟩ := named (textsL 4 (byteL x).2)
  rw [← hy.out] at h ⊢
  match y, h with
  | ([a, b, c, d], z), _ => rfl
/-- The j-th of some texts is set. -/
theorem strs_fill (pre : List Value) (a : List ByteArray) (m : Nat) (t : ByteArray) : (pre ++ strs (a ++ List.replicate (m + 1) e0)).set (pre.length + a.length) (.string t) = pre ++ strs (a ++ [t] ++ List.replicate m e0) := by
  rw [List.set_append_right _ _ (by omega)]
  congr 1
  rw [Nat.add_sub_cancel_left, strs_append, strs_append, strs_append, List.set_append_right _ _ (by rw [strs_length]; exact Nat.le_refl _), strs_length, Nat.sub_self]
  simp [strs, List.replicate_succ]
def chsCells (l : List Chg) : List Value := l.flatMap chCells
theorem chsCells_append (a b : List Chg) : chsCells (a ++ b) = chsCells a ++ chsCells b := by simp [chsCells]
theorem chsCells_length (l : List Chg) : (chsCells l).length = l.length * 5 := by
  induction l with
  | nil => rfl
  | cons c l ih => simp only [chsCells, List.flatMap_cons, List.length_append, List.length_cons] at ih ⊢; rw [ih]; simp only [chCells, List.length_cons, List.length_nil]; omega
theorem Try.info28 : (Try.prog.info? 28).map (fun i => (i.zero, i.size, i.bytes)) = some (some (.agg #[.int .u8 0, .string ⟨#[]⟩, .string ⟨#[]⟩, .string ⟨#[]⟩, .string ⟨#[]⟩]), 5, 72) := by kernel_rfl
end Go.Proofs.Ytiodfbbgbnbdpaa
