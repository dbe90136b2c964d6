/- Plain facts on 32-bit registers: what the walk of crc leaves, as bit vectors. No program in sight. -/
import Derived.Test.YtiodfbbgbnbdpaaGA
namespace Go.Proofs.Ytiodfbbgbnbdpaa
open Go.RowKit
namespace Crc

theorem wrap_u32_nat (n : Nat) (h : n < 4294967296) : IntKind.u32.wrap (n : Int) = n := by
  rw [IntKind.wrap_u32']; omega
theorem ofInt32 (a : BitVec 32) : BitVec.ofInt 32 (a.toNat : Int) = a := by
  rw [BitVec.ofInt_natCast, BitVec.ofNat_toNat, BitVec.setWidth_eq]
theorem bits_xor (a b : BitVec 32) : bits .xor .u32 (a.toNat : Int) (b.toNat : Int) = ((a ^^^ b).toNat : Int) := by
  show IntKind.u32.wrap ((BitVec.ofInt 32 (a.toNat : Int) ^^^ BitVec.ofInt 32 (b.toNat : Int)).toNat : Int) = _
  rw [ofInt32, ofInt32, wrap_u32_nat _ (BitVec.isLt _)]
theorem bits_and (a b : BitVec 32) : bits .and .u32 (a.toNat : Int) (b.toNat : Int) = ((a &&& b).toNat : Int) := by
  show IntKind.u32.wrap ((BitVec.ofInt 32 (a.toNat : Int) &&& BitVec.ofInt 32 (b.toNat : Int)).toNat : Int) = _
  rw [ofInt32, ofInt32, wrap_u32_nat _ (BitVec.isLt _)]

/-- The register moved by one bit. -/
def bit (c : BitVec 32) : BitVec 32 := (c >>> 1) ^^^ (if c.getLsbD 0 then 3988292384#32 else 0#32)

theorem bit_shr (c : BitVec 32) : (c.toNat : Int) / (2 : Int) = ((c >>> 1).toNat : Int) := by
  rw [BitVec.toNat_ushiftRight, Nat.shiftRight_eq_div_pow]; omega
theorem and_one (c : BitVec 32) : c &&& 1#32 = if c.getLsbD 0 then 1#32 else 0#32 := by
  apply BitVec.eq_of_getLsbD_eq
  intro i hi
  by_cases h : i = 0
  · subst h; cases h2 : c.getLsbD 0 <;> simp at h2 <;> simp [h2]
  · cases h2 : c.getLsbD 0 <;> simp [BitVec.getLsbD_one, h]
theorem bit_walk (c : BitVec 32) :
    bits .xor .u32 ((c.toNat : Int) / 2) (bits .and .u32 (-bits .and .u32 (c.toNat : Int) 1 % 4294967296) 3988292384) = ((bit c).toNat : Int) := by
  have h1 : bits .and .u32 (c.toNat : Int) 1 = ((c &&& 1#32).toNat : Int) := bits_and c 1#32
  rw [h1, and_one, bit_shr]
  cases h2 : c.getLsbD 0
  · have h3 : bits .and .u32 (-(((if false = true then 1#32 else 0#32 : BitVec 32).toNat : Int)) % 4294967296) 3988292384 = ((0#32 : BitVec 32).toNat : Int) := by
      simp; exact bits_and 0#32 3988292384#32
    rw [h3, bits_xor, bit, h2]; simp only [Bool.false_eq_true, if_false]
  · have h3 : bits .and .u32 (-(((if true = true then 1#32 else 0#32 : BitVec 32).toNat : Int)) % 4294967296) 3988292384 = ((3988292384#32 : BitVec 32).toNat : Int) := by
      have := bits_and 4294967295#32 3988292384#32
      simpa using this
    rw [h3, bits_xor, bit, h2]; simp only [if_true]
theorem odd_walk (c : BitVec 32) : ((c.toNat : Int) % 2 == 1) = c.getLsbD 0 := by
  have h : c.getLsbD 0 = decide (c.toNat % 2 = 1) := by
    simp [BitVec.getLsbD, Nat.testBit]
    rfl
  rw [h]
  by_cases h1 : c.toNat % 2 = 1
  · have : (c.toNat : Int) % 2 = 1 := by omega
    simp [h1, this]
  · have : ¬ (c.toNat : Int) % 2 = 1 := by omega
    simp [h1, this]
theorem bit_odd (c : BitVec 32) (h : c.getLsbD 0 = true) : bits .xor .u32 ((c.toNat : Int) / (2 : Int)) 3988292384 = ((bit c).toNat : Int) := by
  have := bits_xor (c >>> 1) 3988292384#32
  rw [bit_shr, bit, h]
  simpa using this
theorem bit_even (c : BitVec 32) (h : c.getLsbD 0 = false) : (c.toNat : Int) / (2 : Int) = ((bit c).toNat : Int) := by
  rw [bit_shr, bit, h]; simp
def bits8 : Nat → BitVec 32 → BitVec 32
  | 0, c => c
  | n + 1, c => bit (bits8 n c)
def byte32 (b : UInt8) : BitVec 32 := BitVec.ofNat 32 b.toNat
/-- A byte taken in. -/
def eat (c : BitVec 32) (b : UInt8) : BitVec 32 := bits8 8 (c ^^^ byte32 b)
def run (c : BitVec 32) (l : List UInt8) : BitVec 32 := l.foldl eat c
theorem byte32_toNat (b : UInt8) : (byte32 b).toNat = b.toNat := by
  have := b.toNat_lt; simp [byte32]
theorem eat_walk (c : BitVec 32) (b : UInt8) : bits .xor .u32 (c.toNat : Int) ((b.toNat : Int) % 4294967296) = ((c ^^^ byte32 b).toNat : Int) := by
  have := b.toNat_lt
  rw [← bits_xor, byte32_toNat, show ((b.toNat : Int) % 4294967296) = b.toNat from by omega]
theorem eat_walk' (c : BitVec 32) (b : UInt8) : bits .xor .u32 (c.toNat : Int) (b.toNat : Int) = ((c ^^^ byte32 b).toNat : Int) := by
  rw [← bits_xor, byte32_toNat]
def inv (c : BitVec 32) : BitVec 32 := ~~~ c
/-- A text and more. -/
def more (c : BitVec 32) (l : List UInt8) : BitVec 32 := inv (run (inv c) l)
theorem not_walk (c : BitVec 32) : bits .xor .u32 IntKind.u32.max (c.toNat : Int) = ((inv c).toNat : Int) := by
  have h : IntKind.u32.max = ((4294967295#32 : BitVec 32).toNat : Int) := by decide
  rw [h, bits_xor, inv]
  rw [show (4294967295#32 : BitVec 32) = BitVec.allOnes 32 from by decide, BitVec.allOnes_xor]
theorem run_append (c : BitVec 32) (a b : List UInt8) : run c (a ++ b) = run (run c a) b := by simp [run]
theorem more_append (c : BitVec 32) (a b : List UInt8) : more c (a ++ b) = more (more c a) b := by simp [more, run_append, inv]
theorem more_cut (c : BitVec 32) (s : ByteArray) (k : Nat) : more (more c (s.data.toList.take k)) ((s.data.toList.drop k).take (s.size - k)) = more c s.data.toList := by
  rw [List.take_of_length_le (l := s.data.toList.drop k) (by simp), ← more_append, List.take_append_drop]
/-! ### Numbers as bytes -/
def byteAt (n j : Nat) : UInt8 := UInt8.ofNat (n / 2 ^ (8 * j))
def putL (n k : Nat) : List UInt8 := (List.range k).map (byteAt n)
theorem putL_length (n k : Nat) : (putL n k).length = k := by simp [putL]
theorem putL_take (n k m : Nat) (h : m ≤ k) : (putL n k).take m = putL n m := by
  simp [putL, ← List.map_take, List.take_range, Nat.min_eq_left h]
theorem putL_succ (n k : Nat) : putL n (k + 1) = putL n k ++ [byteAt n k] := by simp [putL, List.range_succ]
theorem byteAt_walk (n k : Nat) : (n : Int) / 2 ^ (8 * k) % 256 = ((byteAt n k).toNat : Int) := by
  simp [byteAt]
theorem byteAt_div (n k : Nat) : byteAt (n / 256 ^ k) 0 = byteAt n k := by
  simp only [byteAt, Nat.mul_zero, Nat.pow_zero, Nat.div_one]
  rw [show (256 : Nat) = 2 ^ 8 from rfl, ← Nat.pow_mul]
/-- The cells of an array that is filled, byte by byte. -/
def putCells (n k : Nat) : Array Value := ((List.range 8).map fun j => if j < k then Value.int .u8 ((byteAt n j).toNat : Int) else Value.int .u8 0).toArray
theorem putCells_size (n k : Nat) : (putCells n k).size = 8 := by simp [putCells]
theorem putCells_get (n k : Nat) (h : k < 8) : (putCells n k)[k]? = some (Value.int .u8 0) := by
  simp [putCells, h]
theorem putCells_set (n k : Nat) : (putCells n k).setIfInBounds k (.int .u8 ((byteAt n k).toNat : Int)) = putCells n (k + 1) := by
  apply Array.ext_getElem?
  intro i
  simp only [putCells, Array.getElem?_setIfInBounds, List.getElem?_toArray, List.getElem?_map, List.size_toArray, List.length_map, List.length_range]
  by_cases hi : k = i
  · subst hi
    by_cases h8 : k < 8 <;> simp [h8]
  · by_cases h8 : i < 8
    · simp only [hi, if_false, List.getElem?_range h8, Option.map_some]
      have : (i < k + 1) ↔ (i < k) := by omega
      simp [this]
    · simp [hi, h8]
theorem putCells_eight (n : Nat) : putCells n 8 = (cellsOf (putL n 8)).toArray := by
  simp only [putCells, putL, cellsOf, List.map_map]
  congr 1
def dv (n k : Nat) : Nat := n / 256 ^ k
theorem dv_zero (n : Nat) : dv n 0 = n := by simp [dv]
theorem dv_le (n k : Nat) : dv n k ≤ n := Nat.div_le_self _ _
theorem div_step (n k : Nat) : (dv n k : Int) / 256 = (dv n (k + 1) : Int) := by
  have : dv n k / 256 = dv n (k + 1) := by unfold dv; rw [Nat.div_div_eq_div_mul, Nat.pow_succ]
  omega
theorem mod_walk (n k : Nat) : (dv n k : Int) % 256 = ((byteAt n k).toNat : Int) := by
  rw [← byteAt_div]; simp [byteAt, dv]
/-- The number that bytes are. -/
def getL : List UInt8 → Nat
  | [] => 0
  | b :: l => b.toNat + 256 * getL l
theorem getL_lt (l : List UInt8) : getL l < 256 ^ l.length := by
  induction l with
  | nil => simp [getL]
  | cons b l ih =>
    have := b.toNat_lt
    simp only [getL, List.length_cons, Nat.pow_succ]
    omega
theorem getL_append (a b : List UInt8) : getL (a ++ b) = getL a + 256 ^ a.length * getL b := by
  induction a with
  | nil => simp [getL]
  | cons c a ih => simp only [List.cons_append, getL, ih, List.length_cons, Nat.pow_succ]; rw [Nat.mul_add, Nat.add_assoc]; congr 2; rw [← Nat.mul_assoc]; congr 1; rw [Nat.mul_comm]
theorem getL_snoc (l : List UInt8) (b : UInt8) : getL (l ++ [b]) = getL l + 256 ^ l.length * b.toNat := by
  rw [getL_append]; simp [getL]
theorem getL_putL (n k : Nat) : getL (putL n k) = n % 256 ^ k := by
  induction k with
  | zero => simp [putL, getL, Nat.mod_one]
  | succ k ih =>
    rw [putL_succ, getL_append, ih, putL_length, Nat.pow_succ, Nat.mod_mul]
    congr 2
    simp only [getL, byteAt]
    rw [show (256 : Nat) ^ k = 2 ^ (8 * k) from by rw [show (256 : Nat) = 2 ^ 8 from rfl, ← Nat.pow_mul]]
    simp
theorem pow_le_seven (k : Nat) (hk : k < 8) : 256 ^ k ≤ 72057594037927936 := by
  have : (256 : Nat) ^ k ≤ 256 ^ 7 := Nat.pow_le_pow_right (by decide) (by omega)
  simpa using this
theorem getL_le (l : List UInt8) (h : l.length ≤ 8) : getL l < 18446744073709551616 := by
  have h1 := getL_lt l
  have : (256 : Nat) ^ l.length ≤ 256 ^ 8 := Nat.pow_le_pow_right (by decide) h
  have h2 : (256 : Nat) ^ 8 = 18446744073709551616 := by decide
  omega
theorem wrap_u64_nat (n : Nat) (h : n < 18446744073709551616) : IntKind.u64.wrap (n : Int) = n := by
  rw [IntKind.wrap_u64]; omega
theorem or_walk (l : List UInt8) (b : UInt8) (k : Nat) (hk : k < 8) (hl : l.length = k) :
    bits .or .u64 (getL l : Int) (IntKind.u64.wrap (IntKind.u64.wrap (b.toNat : Int) * 2 ^ (8 * k))) = ((getL (l ++ [b]) : Nat) : Int) := by
  have hb := b.toNat_lt
  have h1 := getL_lt l
  rw [hl] at h1
  have h2 := pow_le_seven k hk
  have hm : b.toNat * 256 ^ k ≤ 255 * 256 ^ k := Nat.mul_le_mul_right _ (by omega)
  have e1 : IntKind.u64.wrap (b.toNat : Int) = ((b.toNat : Nat) : Int) := wrap_u64_nat _ (by omega)
  have e2 : ((b.toNat : Nat) : Int) * 2 ^ (8 * k) = ((b.toNat * 256 ^ k : Nat) : Int) := by
    rw [Int.pow_mul]; simp
  rw [e1, e2, wrap_u64_nat _ (by omega), getL_snoc, hl]
  show IntKind.u64.wrap ((BitVec.ofInt 64 (getL l : Int) ||| BitVec.ofInt 64 ((b.toNat * 256 ^ k : Nat) : Int)).toNat : Int) = _
  rw [BitVec.toNat_or, BitVec.ofInt_natCast, BitVec.ofInt_natCast, BitVec.toNat_ofNat, BitVec.toNat_ofNat, Nat.mod_eq_of_lt (by omega), Nat.mod_eq_of_lt (by omega)]
  have e3 : getL l ||| b.toNat * 256 ^ k = getL l + 256 ^ k * b.toNat := by
    have hp : (256 : Nat) ^ k = 2 ^ (8 * k) := by rw [show (256 : Nat) = 2 ^ 8 from rfl, ← Nat.pow_mul]
    rw [hp] at h1 ⊢
    rw [Nat.or_comm, Nat.mul_comm b.toNat, ← Nat.two_pow_add_eq_or_of_lt h1, Nat.add_comm]
  rw [e3, wrap_u64_nat _ (by rw [Nat.mul_comm]; omega)]
theorem get_walk (l : List UInt8) (b : UInt8) (h : l.length < 8) :
    IntKind.u64.wrap (IntKind.u64.wrap (256 * (getL l : Int)) + IntKind.u64.wrap (b.toNat : Int)) = ((getL (b :: l) : Nat) : Int) := by
  have hb := b.toNat_lt
  have h1 := getL_lt l
  have h3 : 256 ^ l.length ≤ 72057594037927936 := pow_le_seven _ h
  have h4 : (256 : Int) * (getL l : Int) = ((256 * getL l : Nat) : Int) := by simp
  rw [h4, wrap_u64_nat _ (by omega), wrap_u64_nat _ (by omega), getL]
  rw [show ((256 * getL l : Nat) : Int) + (b.toNat : Int) = ((b.toNat + 256 * getL l : Nat) : Int) from by omega, wrap_u64_nat _ (by omega)]
theorem getL_zero (l : List UInt8) : getL (l ++ [0, 0, 0, 0]) = getL l := by rw [getL_append]; simp [getL]
theorem putL_small (n : Nat) (h : n < 4294967296) : putL n 8 = putL n 4 ++ [0, 0, 0, 0] := by
  have hz : ∀ j, 4 ≤ j → byteAt n j = 0 := fun j hj => by
    have : n < 2 ^ (8 * j) := Nat.lt_of_lt_of_le h (by
      have : (2 : Nat) ^ 32 ≤ 2 ^ (8 * j) := Nat.pow_le_pow_right (by decide) (by omega)
      simpa using this)
    rw [byteAt, Nat.div_eq_of_lt this]
    rfl
  rw [putL_succ, putL_succ, putL_succ, putL_succ, hz 4 (by omega), hz 5 (by omega), hz 6 (by omega), hz 7 (by omega)]
  simp
theorem getL_put4 (n : Nat) (h : n < 4294967296) : getL (putL n 4) = n := by
  rw [getL_putL]; exact Nat.mod_eq_of_lt (by simpa using h)
theorem getL_put8 (n : Nat) (h : n < 18446744073709551616) : getL (putL n 8) = n := by
  rw [getL_putL]; exact Nat.mod_eq_of_lt (by simpa using h)
/-! ### A bit turned -/
theorem and7_walk (n : Nat) (h : n < 9223372036854775808) : bits .and .i64 (n : Int) 7 = ((n % 8 : Nat) : Int) := by
  show IntKind.i64.wrap ((BitVec.ofInt 64 (n : Int) &&& BitVec.ofInt 64 ((7 : Nat) : Int)).toNat : Int) = _
  rw [BitVec.toNat_and, BitVec.ofInt_natCast, BitVec.ofInt_natCast, BitVec.toNat_ofNat, BitVec.toNat_ofNat, Nat.mod_eq_of_lt (by omega), Nat.mod_eq_of_lt (by omega)]
  rw [show (7 : Nat) = 2 ^ 3 - 1 from rfl, Nat.and_two_pow_sub_one_eq_mod]
  simp [IntKind.wrap, IntKind.bits, IntKind.signed]
  omega
def flipL (l : List UInt8) (n : Nat) : List UInt8 := l.modify (n / 8) fun b => b ^^^ UInt8.ofNat (2 ^ (n % 8))
theorem flipL_length (l : List UInt8) (n : Nat) : (flipL l n).length = l.length := by simp [flipL]
theorem pow_lt8 (n : Nat) : 2 ^ (n % 8) < 256 := by
  have : (2 : Nat) ^ (n % 8) ≤ 2 ^ 7 := Nat.pow_le_pow_right (by decide) (by omega)
  omega
theorem xor_u8 (a b : Nat) (ha : a < 256) (hb : b < 256) : bits .xor .u8 (a : Int) (b : Int) = ((UInt8.ofNat a ^^^ UInt8.ofNat b).toNat : Int) := by
  rw [u8_xor_nat a b ha hb]
  simp [Nat.mod_eq_of_lt ha, Nat.mod_eq_of_lt hb]
theorem flip_byte (b : UInt8) (n : Nat) : bits .xor .u8 (b.toNat : Int) (2 ^ (n % 8) % 256) = ((b ^^^ UInt8.ofNat (2 ^ (n % 8))).toNat : Int) := by
  have h := pow_lt8 n
  have e : ((2 : Int) ^ (n % 8) % 256) = ((2 ^ (n % 8) : Nat) : Int) := by
    have he : ((2 ^ (n % 8) : Nat) : Int) = (2 : Int) ^ (n % 8) := by simp
    generalize hp : (2 ^ (n % 8) : Nat) = p at h he
    rw [← he]; exact Int.emod_eq_of_lt (by omega) (by omega)
  rw [e, xor_u8 _ _ b.toNat_lt h]
  simp
/-- What bytes are as a number of so many bytes: the number, the error. -/
def gotN (k : Nat) (l : List UInt8) : Nat := if l.length = k then getL l else 0
def gotE (k : Nat) (l : List UInt8) : Int := if l.length = k then 0 else 14
theorem got_yes (k : Nat) (l : List UInt8) (h : l.length = k) : gotN k l = getL l ∧ gotE k l = 0 := by simp [gotN, gotE, h]
theorem got_no (k : Nat) (l : List UInt8) (h : l.length ≠ k) : gotN k l = 0 ∧ gotE k l = 14 := by simp [gotN, gotE, h]
end Crc
end Go.Proofs.Ytiodfbbgbnbdpaa
