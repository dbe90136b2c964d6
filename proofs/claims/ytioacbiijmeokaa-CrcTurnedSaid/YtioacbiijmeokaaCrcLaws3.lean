/- The walks of the statements on turned bits: CrcFlips, CrcTurned. -/
import Derived.Test.YtioacbiijmeokaaCrcLaws1
import Derived.Test.YtioacbiijmeokaaCrcTurn
import Derived.BigRegion
import Derived.StillTailTactics
namespace Go.Proofs.Ytioacbiijmeokaa
open Go.RowKit
open Crc
theorem heap_new (w : World) (c : Array Value) (E : TypeId) (fr : Nat × Nat) : (w.alloc (.cells c E fr)).drew.heap[w.heap.size]? = some (.cells c E fr) := by
  show (w.heap.push _)[w.heap.size]? = _
  simp
theorem bytesRow_cell (w : World) (s : ByteArray) (E : TypeId) (cap : Nat) (j : Nat) (hj : j < s.size) :
    (w.alloc (Obj.cells (bytesRow s cap) E ((bytesRow s cap).size, (bytesRow s cap).size + 1))).drew.cell? ⟨w.heap.size, j, none⟩ = some (.int .u8 (s[j].toNat : Int)) := by
  have hj' : j < s.data.size := hj
  unfold World.cell?
  simp only [heap_new, Option.isSome_none, Bool.false_eq_true, if_false]
  rw [bytesRow, Array.getElem?_append_left (by simpa using hj'), Array.getElem?_map, Array.getElem?_eq_getElem hj']
  rfl
theorem bytesRow_free (w : World) (s : ByteArray) (E : TypeId) (cap : Nat) (j : Nat) (hj : j < s.size) :
    (w.alloc (Obj.cells (bytesRow s cap) E ((bytesRow s cap).size, (bytesRow s cap).size + 1))).drew.frozen? ⟨w.heap.size, j, none⟩ = false := by
  have hs : s.size ≤ (bytesRow s cap).size := by simp [bytesRow]
  unfold World.frozen?
  simp only [heap_new]
  simp
  omega
theorem flip_cells (W1 : World) (b : Nat) (s : ByteArray) (n : Nat) (h : n / 8 < s.size) (hcells : ∀ (j : Nat) (hj : j < s.size), W1.cell? ⟨b, j, none⟩ = some (.int .u8 (s[j].toNat : Int))) (j : Nat) (hj : j < (flipL s.data.toList n).length) :
    (W1.setCell ⟨b, n / 8, none⟩ (.int .u8 ((s[n / 8] ^^^ UInt8.ofNat (2 ^ (n % 8))).toNat : Int))).cell? ((⟨b, 0, none⟩ : Addr).add j) = some (.int .u8 ((flipL s.data.toList n)[j].toNat : Int)) := by
  have hj' : j < s.size := by rw [flipL_length] at hj; simpa using hj
  rw [show (⟨b, 0, none⟩ : Addr).add j = ⟨b, j, none⟩ from by cases j <;> simp [Addr.add]]
  by_cases e : n / 8 = j
  · subst e
    have := World.cell?_setCell_same W1 ⟨b, n / 8, none⟩ (.int .u8 ((s[n / 8] ^^^ UInt8.ofNat (2 ^ (n % 8))).toNat : Int)) (hcells _ h)
    simp only [flipL, List.getElem_modify_eq]
    exact this
  · have := World.cell?_setCell_other W1 ⟨b, n / 8, none⟩ ⟨b, j, none⟩ (.int .u8 ((s[n / 8] ^^^ UInt8.ofNat (2 ^ (n % 8))).toNat : Int)) (by simp)
    simp only [flipL, List.getElem_modify, e, if_false]
    exact this.trans (hcells _ hj')
set_option maxRecDepth 100000 in
set_option maxHeartbeats 400000 in
theorem flip_yes (s : ByteArray) (n : Nat) (w : World) (hs : s.size ≤ 140737488351232) (h : n / 8 < s.size) :
    Calls Try.prog 19 #[.string s, .int .i64 (n : Int)] w fun e w' => e = .returned (.tuple #[.string (str (flipL s.data.toList n)), .int .i64 0]) ∧ Below w.heap.size w w' := by
  have hcv := fun w' : World => run_bytes_of_string (P := Try.prog) w' 9 48 5 s Try.underlying9 Try.underlying48 Try.underlying5
  go_enter Try.func19, Try.ntmps19
  go_wp2
  obtain ⟨W1, hW⟩ := named ((w.alloc (Obj.cells (bytesRow s (grownCap w s.size 0 5)) 5 ((bytesRow s (grownCap w s.size 0 5)).size, (bytesRow s (grownCap w s.size 0 5)).size + 1))).drew)
  rw [← hW.out]
  have hcells := hide (bytesRow_cell w s 5 (grownCap w s.size 0 5))
  have hfz := hide (bytesRow_free w s 5 (grownCap w s.size 0 5))
  rw [← hW.out] at hcells hfz
  have hb1 : Below w.heap.size w W1 := by rw [hW.out]; exact ((Below.refl _ _).alloc (Nat.le_refl _) _).drew
  have hc := hcells.out (n / 8) h
  have hf := hfz.out (n / 8) h
  have h7 := and7_walk n (by omega)
  have h0 : (0 : Int) ≤ (n : Int) / 8 := by omega
  clear hcv
  go_region
  have hfb := flip_byte s[n / 8] n
  rw [hfb]
  clear hfb h7 hc hf
  obtain ⟨W2, hW2⟩ := named ((W1.setCell ⟨w.heap.size, n / 8, none⟩ (.int .u8 ((s[n / 8] ^^^ UInt8.ofNat (2 ^ (n % 8))).toNat : Int))).drew)
  rw [← hW2.out]
  have hb2 : Below w.heap.size w W2 := by rw [hW2.out]; exact (hb1.setCell (p := ⟨w.heap.size, n / 8, none⟩) (Nat.le_refl _) _).drew
  have hcv := fun cap => run_convert_bytes_back (P := Try.prog) W2 48 9 5 ⟨w.heap.size, 0, none⟩ cap (flipL s.data.toList n) Try.underlying48 Try.underlying5 Try.underlying9 (fun j hj => by
    rw [hW2.out]
    exact flip_cells W1 w.heap.size s n h hcells.out j hj)
  rw [flipL_length, show s.data.toList.length = s.size from by simp] at hcv
  clear hcells hfz h0
  go_wp2
  go_ret2
  exact ⟨rfl, hb2⟩
set_option maxHeartbeats 400000 in
theorem flip_no (s : ByteArray) (n : Int) (w : World) (hs : s.size ≤ 140737488351232) (hn : -9223372036854775808 ≤ n ∧ n ≤ 9223372036854775807) (h : n < 0 ∨ s.size ≤ n / 8) :
    Calls Try.prog 19 #[.string s, .int .i64 n] w fun e w' => e = .returned (.tuple #[.string ⟨#[]⟩, .int .i64 1]) ∧ w = w' := by
  obtain ⟨h1, h2⟩ := hn
  rcases h with h | h
  · go_enter Try.func19, Try.ntmps19
    go_wp2
    go_ret2
    exact ⟨rfl, rfl⟩
  · have h0 : 0 ≤ n := by omega
    go_enter Try.func19, Try.ntmps19
    go_wp2
    go_ret2
    exact ⟨rfl, rfl⟩
set_option maxHeartbeats 400000 in
theorem refflip_no (s : ByteArray) (n : Int) (w : World) (hs : s.size ≤ 140737488351232) (hn : -9223372036854775808 ≤ n ∧ n ≤ 9223372036854775807) (h : n < 0 ∨ s.size ≤ n / 8) :
    Calls Try.prog 20 #[.string s, .int .i64 n] w fun e w' => e = .returned (.tuple #[.string ⟨#[]⟩, .int .i64 1]) ∧ w = w' := by
  obtain ⟨h1, h2⟩ := hn
  rcases h with h | h
  · go_enter Try.func20, Try.ntmps20
    go_wp2
    go_ret2
    exact ⟨rfl, rfl⟩
  · have h0 : 0 ≤ n := by omega
    go_enter Try.func20, Try.ntmps20
    go_wp2
    go_ret2
    exact ⟨rfl, rfl⟩
def pow2 (k : Nat) : Nat := 2 ^ k
theorem flip_byte2 (b : UInt8) (n : Nat) : bits .xor .u8 (b.toNat : Int) (pow2 (n % 8) : Int) = ((b ^^^ UInt8.ofNat (2 ^ (n % 8))).toNat : Int) := by
  have h := pow_lt8 n
  rw [pow2, xor_u8 _ _ b.toNat_lt h]
  simp
theorem pow2_step (k : Nat) (h : k < 7) : (pow2 k : Int) * 2 % 256 = (pow2 (k + 1) : Int) := by
  have : (2 : Nat) ^ k ≤ 2 ^ 6 := Nat.pow_le_pow_right (by decide) (by omega)
  simp only [pow2, Nat.pow_succ]
  omega
set_option maxRecDepth 100000 in
set_option maxHeartbeats 400000 in
theorem refflip_yes (s : ByteArray) (n : Nat) (w : World) (hs : s.size ≤ 140737488351232) (h : n / 8 < s.size) :
    Calls Try.prog 20 #[.string s, .int .i64 (n : Int)] w fun e w' => e = .returned (.tuple #[.string (str (flipL s.data.toList n)), .int .i64 0]) ∧ Below w.heap.size w w' := by
  have hcv := fun w' : World => run_bytes_of_string (P := Try.prog) w' 9 48 5 s Try.underlying9 Try.underlying48 Try.underlying5
  go_enter Try.func20, Try.ntmps20
  go_wp2
  obtain ⟨W1, hW⟩ := named ((w.alloc (Obj.cells (bytesRow s (grownCap w s.size 0 5)) 5 ((bytesRow s (grownCap w s.size 0 5)).size, (bytesRow s (grownCap w s.size 0 5)).size + 1))).drew)
  rw [← hW.out]
  have hcells := hide (bytesRow_cell w s 5 (grownCap w s.size 0 5))
  have hfz := hide (bytesRow_free w s 5 (grownCap w s.size 0 5))
  rw [← hW.out] at hcells hfz
  have hb1 : Below w.heap.size w W1 := by rw [hW.out]; exact ((Below.refl _ _).alloc (Nat.le_refl _) _).drew
  have hc := hcells.out (n / 8) h
  have hf := hfz.out (n / 8) h
  have h0 : (0 : Int) ≤ (n : Int) / 8 := by omega
  clear hcv
  go_loop [7, 8] (fun x i => ∃ k : Nat, k ≤ n % 8 ∧ i = .int .i64 k ∧ x = .int .u8 (pow2 k : Int)) (fun _ i => n % 8 - (intOf i).toNat)
  case atStart => exact ⟨0, by omega, rfl, rfl⟩
  case round =>
    obtain ⟨k, hk, rfl, rfl⟩ := hrel
    by_cases hlt : k < n % 8
    · have hps := hide (pow2_step k (by omega))
      go_wp2
      go_round
      case rel => exact ⟨k + 1, by omega, by go_num, by rw [hps.out]⟩
      case measure => simp [intOf]; omega
    · obtain rfl : k = n % 8 := by omega
      have hcv := fun cap => run_convert_bytes_back (P := Try.prog) _ 48 9 5 ⟨w.heap.size, 0, none⟩ cap (flipL s.data.toList n) Try.underlying48 Try.underlying5 Try.underlying9 (flip_cells W1 w.heap.size s n h hcells.out)
      rw [flipL_length, show s.data.toList.length = s.size from by simp, ← flip_byte2] at hcv
      clear hcells hfz
      go_wp2
      go_ret2
      exact ⟨rfl, hb1.setCell (p := ⟨w.heap.size, n / 8, none⟩) (Nat.le_refl _) _⟩
theorem flip_a (w : World) :
    Calls Try.prog 19 #[.string ⟨#[97]⟩, .int .i64 1] w fun e w' => e = .returned (.tuple #[.string ⟨#[99]⟩, .int .i64 0]) ∧ Below w.heap.size w w' := by
  have := flip_yes ⟨#[97]⟩ 1 w (by decide) (by decide)
  rw [show str (flipL (ByteArray.mk #[97]).data.toList 1) = ⟨#[99]⟩ from by decide +kernel] at this
  exact this
set_option maxHeartbeats 400000 in
theorem crcflips_w (s : ByteArray) (n : Int) (w : World) (hs : s.size ≤ 140737488351232) (hn : -9223372036854775808 ≤ n ∧ n ≤ 9223372036854775807) :
    Calls Try.prog 4 #[.string s, .int .i64 n] w fun e w' => e = .returned (.bool true) ∧ Below w.heap.size w w' := by
  by_cases h : 0 ≤ n ∧ n / 8 < s.size
  · obtain ⟨k, rfl⟩ := Int.eq_ofNat_of_zero_le h.1
    have hk : k / 8 < s.size := by omega
    clear h hn
    go_enter Try.func4, Try.ntmps4
    go_wp2_with fail
    refine (flip_yes s k _ hs hk).mono ?_
    rintro e w1 ⟨rfl, hb1⟩
    go_wp2_with fail
    refine (refflip_yes s k _ hs hk).mono ?_
    rintro e w2 ⟨rfl, hb2⟩
    go_wp2_with fail
    refine (flip_a _).mono ?_
    rintro e w3 ⟨rfl, hb3⟩
    go_wp2
    go_ret
    exact ⟨rfl, bt (bt hb1 hb2) hb3⟩
  · have h' : n < 0 ∨ s.size ≤ n / 8 := by omega
    have hn' := hide hn
    have h'' := hide h'
    clear h h' hn
    go_enter Try.func4, Try.ntmps4
    go_wp2_with fail
    refine (flip_no s n _ hs hn'.out h''.out).mono ?_
    rintro e w1 ⟨rfl, rfl⟩
    go_wp2_with fail
    refine (refflip_no s n _ hs hn'.out h''.out).mono ?_
    rintro e w2 ⟨rfl, rfl⟩
    go_wp2_with fail
    refine (flip_a _).mono ?_
    rintro e w3 ⟨rfl, hb3⟩
    go_wp2
    go_ret
    exact ⟨rfl, hb3⟩
theorem flip_again (s : ByteArray) (n : Nat) (w : World) (hs : s.size ≤ 140737488351232) (h : n / 8 < s.size) :
    Calls Try.prog 19 #[.string (str (flipL s.data.toList n)), .int .i64 (n : Int)] w fun e w' => e = .returned (.tuple #[.string s, .int .i64 0]) ∧ Below w.heap.size w w' := by
  have hz : (str (flipL s.data.toList n)).size = s.size := by rw [str_size, flipL_length]; simp
  have := flip_yes (str (flipL s.data.toList n)) n w (by omega) (by omega)
  rw [str_data, Crc.flip_back, str_of] at this
  exact this
theorem sum_str (l : List UInt8) (w : World) (hl : l.length ≤ 140737488351232) :
    Calls Try.prog 28 #[.string (str l)] w fun e w' => e = .returned (.int .u32 ((more 0#32 l).toNat : Int)) ∧ w = w' := by
  have := sum_w (str l) w (by rw [str_size]; unfold maxLen; omega)
  rw [str_data] at this
  exact this
theorem flip_str (l : List UInt8) (n : Nat) (w : World) (hs : l.length ≤ 140737488351232) (h : n / 8 < l.length) :
    Calls Try.prog 19 #[.string (str l), .int .i64 (n : Int)] w fun e w' => e = .returned (.tuple #[.string (str (flipL l n)), .int .i64 0]) ∧ Below w.heap.size w w' := by
  have := flip_yes (str l) n w (by rw [str_size]; exact hs) (by rw [str_size]; exact h)
  rw [str_data] at this
  exact this
theorem toNat_beq {a b : BitVec 32} (h : a ≠ b) : ((a.toNat : Int) == (b.toNat : Int)) = false := by
  simp only [beq_eq_false_iff_ne, ne_eq]
  intro e
  exact h (BitVec.eq_of_toNat_eq (by omega))
theorem toNat_bne {a b : BitVec 32} (h : a ≠ b) : ((a.toNat : Int) != (b.toNat : Int)) = true := by
  rw [bne, toNat_beq h]; rfl
set_option maxHeartbeats 800000 in
theorem crcturned_w (s : ByteArray) (n : Int) (d : Nat) (w : World) (hs : s.size ≤ 140737488351232) (hn : -9223372036854775808 ≤ n ∧ n ≤ 9223372036854775807) (hd : d < 256) :
    Calls Try.prog 12 #[.string s, .int .i64 n, .int .u8 (d : Int)] w fun e w' => e = .returned (.bool true) ∧ Below w.heap.size w w' := by
  have hm : s.size ≤ maxLen := by unfold maxLen; omega
  by_cases h : 0 ≤ n ∧ n / 8 < s.size
  · obtain ⟨k, rfl⟩ := Int.eq_ofNat_of_zero_le h.1
    have hk : k / 8 < s.size := by omega
    have hkl : k / 8 < s.data.toList.length := by simpa using hk
    have hl : (flipL s.data.toList k).length ≤ 140737488351232 := by rw [flipL_length]; simpa using hs
    have h1 := toNat_beq (one_turned 0#32 s.data.toList k hkl)
    have hkl' := hide hkl
    have hz : (str (flipL s.data.toList k)).size ≤ 140737488351232 := by rw [str_size]; exact hl
    clear h hn hkl
    go_enter Try.func12, Try.ntmps12
    go_wp2_with fail
    refine (sums_w _).mono ?_
    rintro e w0 ⟨rfl, rfl⟩
    go_wp2_with fail
    refine (flip_yes s k _ hs hk).mono ?_
    rintro e w1 ⟨rfl, hb1⟩
    go_wp2_with fail
    refine (flip_again s k _ hs hk).mono ?_
    rintro e w2 ⟨rfl, hb2⟩
    go_wp2_with fail
    refine (sum_str _ _ hl).mono ?_
    rintro e w3 ⟨rfl, rfl⟩
    go_wp2_with fail
    refine (sum_w s _ hm).mono ?_
    rintro e w3 ⟨rfl, rfl⟩
    by_cases ho : d % 31 + 1 ≤ k
    · obtain ⟨m, rfl⟩ : ∃ m, k = m + (d % 31 + 1) := ⟨k - (d % 31 + 1), by omega⟩
      have h2 := toNat_bne (two_turned 0#32 s.data.toList (m + (d % 31 + 1)) (d % 31 + 1) hkl'.out (by omega) (by omega) (by omega))
      rw [show m + (d % 31 + 1) - (d % 31 + 1) = m from by omega] at h2
      have hkm : m / 8 < (flipL s.data.toList (m + (d % 31 + 1))).length := by rw [flipL_length]; have := hkl'.out; omega
      have hl2 : (flipL (flipL s.data.toList (m + (d % 31 + 1))) m).length ≤ 140737488351232 := by rw [flipL_length]; exact hl
      have hkm' := hide hkm
      clear hkm
      go_wp2_with fail
      rw [show (m : Int) + ((d : Int) % 31 + 1) - (d : Int) % 31 - 1 = (m : Int) from by omega]
      refine (flip_str _ m _ hl hkm'.out).mono ?_
      rintro e w3 ⟨rfl, hb3⟩
      go_wp2_with fail
      refine (sum_str _ _ hl2).mono ?_
      rintro e w4 ⟨rfl, rfl⟩
      go_wp2_with fail
      refine (sum_w s _ hm).mono ?_
      rintro e w4 ⟨rfl, rfl⟩
      go_wp2
      go_ret
      exact ⟨rfl, bt (bt hb1 hb2) hb3⟩
    · go_wp2_with fail
      refine (flip_no _ _ _ hz (by omega) (by omega)).mono ?_
      rintro e w3 ⟨rfl, rfl⟩
      go_wp2
      go_ret
      exact ⟨rfl, bt hb1 hb2⟩
  · have h' : n < 0 ∨ s.size ≤ n / 8 := by omega
    have hn' := hide hn
    have h'' := hide h'
    clear h h' hn
    go_enter Try.func12, Try.ntmps12
    go_wp2_with fail
    refine (sums_w _).mono ?_
    rintro e w0 ⟨rfl, rfl⟩
    go_wp2_with fail
    refine (flip_no s n _ hs hn'.out h''.out).mono ?_
    rintro e w1 ⟨rfl, rfl⟩
    go_wp2
    go_ret
    exact ⟨rfl, Below.refl _ _⟩
end Go.Proofs.Ytioacbiijmeokaa
