/- Frames as sectors, in Lean: what each call of package record comes to. -/
import Derived.Test.YtdgonhmipecjpaaCrcTurn
namespace Go.Proofs.Ytdgonhmipecjpaa
open Go.RowKit
open Crc
/-- A frame. -/
structure Fr where
  kind : UInt8
  epoch : Nat
  seq : Nat
  pay : List UInt8
def Fr.ok (f : Fr) : Prop := f.epoch < 18446744073709551616 ∧ f.seq < 18446744073709551616
def frCheck (f : Fr) : Int := if f.kind = 0 then 1 else if 16384 < f.pay.length then 3 else 0
/-- A payload's pieces. -/
def piecesN (n : Nat) : Nat := (n + 60) / 61
def fillL (n : Nat) (l : List UInt8) : List UInt8 := l ++ List.replicate (n - l.length) 0
theorem fillL_length {n : Nat} {l : List UInt8} (h : l.length ≤ n) : (fillL n l).length = n := by rw [fillL, List.length_append, List.length_replicate]; omega
def crcOf (l : List UInt8) : Nat := (more 0#32 l).toNat
theorem crcOf_lt (l : List UInt8) : crcOf l < 4294967296 := (more 0#32 l).isLt
/-- A head's bytes ahead of its own sum. -/
def frontL (kind : UInt8) (epoch seq len sum : Nat) : List UInt8 := [72, kind] ++ putL epoch 8 ++ putL seq 8 ++ putL len 4 ++ putL sum 4
theorem frontL_length (kind : UInt8) (epoch seq len sum : Nat) : (frontL kind epoch seq len sum).length = 26 := by simp [frontL, putL_length]
def headL (kind : UInt8) (epoch seq len sum : Nat) : List UInt8 := fillL 64 (frontL kind epoch seq len sum ++ putL (crcOf (frontL kind epoch seq len sum)) 4)
theorem headL_length (kind : UInt8) (epoch seq len sum : Nat) : (headL kind epoch seq len sum).length = 64 := fillL_length (by simp [frontL_length, putL_length])
def pieceL (p : List UInt8) (i : Nat) : List UInt8 := fillL 64 ([66, UInt8.ofNat (i % 256), UInt8.ofNat (i / 256)] ++ (p.drop (61 * i)).take 61)
theorem pieceL_length (p : List UInt8) (i : Nat) : (pieceL p i).length = 64 := fillL_length (by simp; omega)
def frHead (f : Fr) : List UInt8 := headL f.kind f.epoch f.seq f.pay.length (crcOf f.pay)
def sectorsL (f : Fr) : List (List UInt8) := frHead f :: (List.range (piecesN f.pay.length)).map (pieceL f.pay)
theorem sectorsL_length (f : Fr) : (sectorsL f).length = piecesN f.pay.length + 1 := by simp [sectorsL]
theorem sectorsL_sizes (f : Fr) : ∀ s ∈ sectorsL f, s.length = 64 := by
  intro s hs
  simp only [sectorsL, List.mem_cons, List.mem_map] at hs
  rcases hs with rfl | ⟨i, _, rfl⟩
  · exact headL_length _ _ _ _ _
  · exact pieceL_length _ _
end Go.Proofs.Ytdgonhmipecjpaa
