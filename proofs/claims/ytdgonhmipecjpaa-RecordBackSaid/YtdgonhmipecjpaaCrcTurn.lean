/- Plain facts: a check sum tells of one bit turned, and of two that are less than 32 apart. No program in sight. -/
import Derived.Test.YtdgonhmipecjpaaCrcPlain
namespace Go.Proofs.Ytdgonhmipecjpaa
open Crc
namespace Crc
theorem bit_xor (a b : BitVec 32) : bit (a ^^^ b) = bit a ^^^ bit b := by
  apply BitVec.eq_of_getLsbD_eq
  intro i hi
  simp only [bit, BitVec.getLsbD_xor]
  cases ha : a.getLsbD 0 <;> cases hb : b.getLsbD 0 <;> simp <;> (cases a.getLsbD (1 + i) <;> cases b.getLsbD (1 + i) <;> cases (3988292384#32).getLsbD i <;> rfl)
theorem bit_eq_zero (c : BitVec 32) (h : bit c = 0#32) : c = 0#32 := by
  have hs : ∀ i, i < 32 → (bit c).getLsbD i = false := fun i _ => by rw [h]; simp
  cases h0 : c.getLsbD 0
  · apply BitVec.eq_of_getLsbD_eq
    intro i hi
    simp only [BitVec.getLsbD_zero]
    cases i with
    | zero => exact h0
    | succ j =>
      have := hs j (by omega)
      rw [bit, h0] at this
      simp only [BitVec.getLsbD_xor, BitVec.getLsbD_ushiftRight, Bool.false_eq_true, if_false, BitVec.getLsbD_zero, Bool.xor_false] at this
      rw [Nat.add_comm]; exact this
  · have := hs 31 (by omega)
    rw [bit, h0] at this
    simp only [BitVec.getLsbD_xor, BitVec.getLsbD_ushiftRight, if_true] at this
    rw [BitVec.getLsbD_of_ge c (1 + 31) (by omega)] at this
    exact absurd this (by decide)
theorem bits8_xor (n : Nat) (a b : BitVec 32) : bits8 n (a ^^^ b) = bits8 n a ^^^ bits8 n b := by
  induction n with
  | zero => rfl
  | succ n ih => simp only [bits8, ih, bit_xor]
theorem bits8_add (m n : Nat) (c : BitVec 32) : bits8 m (bits8 n c) = bits8 (m + n) c := by
  induction m with
  | zero => simp [bits8]
  | succ m ih => rw [show m + 1 + n = (m + n) + 1 from by omega]; simp only [bits8, ih]
theorem bits8_ne (n : Nat) (c : BitVec 32) (h : c ≠ 0#32) : bits8 n c ≠ 0#32 := by
  induction n with
  | zero => exact h
  | succ n ih => exact fun e => ih (bit_eq_zero _ e)
theorem byte32_xor (a b : UInt8) : byte32 (a ^^^ b) = byte32 a ^^^ byte32 b := by
  apply BitVec.eq_of_toNat_eq
  rw [BitVec.toNat_xor, byte32_toNat, byte32_toNat, byte32_toNat, UInt8.toNat_xor]
theorem xor_four (a b c d : BitVec 32) : (a ^^^ b) ^^^ (c ^^^ d) = (a ^^^ c) ^^^ (b ^^^ d) := by
  rw [BitVec.xor_assoc, BitVec.xor_assoc, ← BitVec.xor_assoc b c d, ← BitVec.xor_assoc c b d, BitVec.xor_comm b c]
theorem eat_xor (a b : BitVec 32) (x y : UInt8) : eat (a ^^^ b) (x ^^^ y) = eat a x ^^^ eat b y := by
  simp only [eat, byte32_xor]
  rw [xor_four, bits8_xor]
theorem eat_state (a d : BitVec 32) (x : UInt8) : eat (a ^^^ d) x = eat a x ^^^ bits8 8 d := by
  have := eat_xor a d x 0
  simpa [eat, byte32] using this
theorem eat_bit (c : BitVec 32) (x : UInt8) (i : Nat) (hi : i < 8) : eat c (x ^^^ UInt8.ofNat (2 ^ i)) = eat c x ^^^ bits8 (8 - i) 1#32 := by
  have h := eat_xor c 0#32 x (UInt8.ofNat (2 ^ i))
  have h2 : ∀ i : Fin 8, eat 0#32 (UInt8.ofNat (2 ^ i.val)) = bits8 (8 - i.val) 1#32 := by decide +kernel
  rw [BitVec.xor_zero] at h
  rw [h, h2 ⟨i, hi⟩]
theorem run_state (l : List UInt8) : ∀ (a d : BitVec 32), run (a ^^^ d) l = run a l ^^^ bits8 (8 * l.length) d := by
  induction l with
  | nil => intro a d; rfl
  | cons x l ih =>
    intro a d
    show run (eat (a ^^^ d) x) l = run (eat a x) l ^^^ _
    rw [eat_state, ih, bits8_add, List.length_cons]
    congr 2
theorem run_flip (l : List UInt8) : ∀ (c : BitVec 32) (n : Nat), n / 8 < l.length → run c (flipL l n) = run c l ^^^ bits8 (8 * l.length - n) 1#32 := by
  induction l with
  | nil => intro c n h; simp at h
  | cons x l ih =>
    intro c n h
    by_cases h0 : n < 8
    · have e1 : n / 8 = 0 := by omega
      have e2 : n % 8 = n := by omega
      have : flipL (x :: l) n = (x ^^^ UInt8.ofNat (2 ^ n)) :: l := by simp [flipL, e1, e2]
      rw [this]
      show run (eat c (x ^^^ UInt8.ofNat (2 ^ n))) l = run (eat c x) l ^^^ _
      rw [eat_bit c x n h0, run_state, bits8_add, List.length_cons]
      congr 2
      omega
    · have e1 : n / 8 = (n - 8) / 8 + 1 := by omega
      have e2 : (n - 8) % 8 = n % 8 := by omega
      have : flipL (x :: l) n = x :: flipL l (n - 8) := by simp [flipL, e1, e2]
      rw [this]
      show run (eat c x) (flipL l (n - 8)) = run (eat c x) l ^^^ _
      rw [ih (eat c x) (n - 8) (by simp at h; omega), List.length_cons]
      congr 2
      omega
theorem xor_ne (a d : BitVec 32) (h : d ≠ 0#32) : a ^^^ d ≠ a := by
  intro e
  apply h
  have : a ^^^ (a ^^^ d) = a ^^^ a := by rw [e]
  rw [← BitVec.xor_assoc, BitVec.xor_self, BitVec.zero_xor] at this
  exact this
theorem inv_inj {a b : BitVec 32} (h : inv a = inv b) : a = b := by
  have := congrArg (fun x : BitVec 32 => ~~~ x) h
  simpa [inv] using this
theorem one_turned (c : BitVec 32) (l : List UInt8) (n : Nat) (h : n / 8 < l.length) : more c (flipL l n) ≠ more c l := by
  intro e
  have := inv_inj e
  rw [run_flip l _ n h] at this
  exact xor_ne _ _ (bits8_ne _ _ (by decide)) this
theorem two_turned (c : BitVec 32) (l : List UInt8) (n d : Nat) (h : n / 8 < l.length) (hd : 0 < d) (hd' : d ≤ 31) (hn : d ≤ n) : more c (flipL (flipL l n) (n - d)) ≠ more c l := by
  intro e
  have := inv_inj e
  rw [run_flip _ _ (n - d) (by rw [flipL_length]; omega), flipL_length, run_flip l _ n h, BitVec.xor_assoc] at this
  have hk : bits8 (8 * l.length - (n - d)) 1#32 = bits8 (8 * l.length - n) (bits8 d 1#32) := by
    rw [bits8_add]; congr 1; omega
  rw [hk, ← bits8_xor] at this
  have hall : ∀ d : Fin 32, 0 < d.val → 1#32 ^^^ bits8 d.val 1#32 ≠ 0#32 := by decide +kernel
  exact xor_ne _ _ (bits8_ne _ _ (hall ⟨d, by omega⟩ hd)) this
theorem flip_back (l : List UInt8) (n : Nat) : flipL (flipL l n) n = l := by
  apply List.ext_getElem?
  intro i
  simp only [flipL, List.getElem?_modify]
  by_cases e : n / 8 = i
  · subst e
    cases l[n / 8]? with
    | none => rfl
    | some b => simp [UInt8.xor_assoc]
  · simp [e]
end Crc
end Go.Proofs.Ytdgonhmipecjpaa
