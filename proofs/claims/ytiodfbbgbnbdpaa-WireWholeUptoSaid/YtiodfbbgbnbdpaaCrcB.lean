/- crc.Sum, Put32, Put64, Get32, Get64, Flip, where the rest of the chapter is not there. -/
import Derived.Test.YtiodfbbgbnbdpaaCrcPlain
import Derived.Test.YtiodfbbgbnbdpaaGA
import Derived.Deep.QuietTactic
import Derived.BigQuiet
import Derived.BigRegion
import Derived.StillTailTactics
namespace Go.Proofs.Ytiodfbbgbnbdpaa
open Go.RowKit
open Crc
set_option maxHeartbeats 400000 in
theorem put64_w (n : Nat) (w : World) :
    Calls Try.prog 70 #[.int .u64 (n : Int)] w fun e w' => e = .returned (.string (str (putL n 8))) ∧ Below w.heap.size w w' := by
  go_enter Try.func70, Try.ntmps70
  go_wp2
  go_loopw [5] (fun i wr => ∃ k : Nat, k ≤ 8 ∧ i = .int .i64 k ∧ wr = w.alloc (.cells (putCells n k) 140)) (fun i _ => 8 - (intOf i).toNat)
  case atStart => exact ⟨0, by omega, rfl, rfl⟩
  case round =>
    obtain ⟨k, hk, rfl, rfl⟩ := hrel
    by_cases hlt : k < 8
    · have hsz := putCells_size n k
      have hg := putCells_get n k hlt
      go_wp2
      go_roundw
      case rel => exact ⟨k + 1, by omega, by go_num, by rw [byteAt_walk, putCells_set]⟩
      case measure => simp [intOf]; omega
    · obtain rfl : k = 8 := by omega
      have hcv := back_cells (P := Try.prog) w 51 9 5 140 (putL n 8) 8 (putL_length _ _) Try.underlying51 Try.underlying5 Try.underlying9 8
      rw [putCells_eight]
      go_wp2
      go_ret
      exact ⟨rfl, (Below.refl _ _).alloc (Nat.le_refl _) _⟩
set_option maxHeartbeats 400000 in
theorem put32_w (n : Nat) (w : World) (hn : n < 4294967296) :
    Calls Try.prog 79 #[.int .u32 (n : Int)] w fun e w' => e = .returned (.string (str (putL n 4))) ∧ Below w.heap.size w w' := by
  have hsz : (str (putL n 8)).size = 8 := by rw [str_size, putL_length]
  have hex : (str (putL n 8)).extract 0 4 = str (putL n 4) := by rw [str_extract, List.drop_zero, putL_take _ _ _ (by omega)]
  go_enter Try.func79, Try.ntmps79
  go_wp2_with (go_at_call 70; refine (put64_w _ _).mono ?_; rintro e w' ⟨rfl, hb⟩)
  go_ret
  exact ⟨rfl, hb⟩
set_option maxHeartbeats 400000 in
theorem get64_no (s : ByteArray) (w : World) (h8 : s.size ≠ 8) :
    Calls Try.prog 88 #[.string s] w fun e w' => e = .returned (.tuple #[.int .u64 0, .int .i64 14]) ∧ w = w' := by
  have hb : ((s.size : Int) != 8) = true := by simp; omega
  go_enter Try.func88, Try.ntmps88
  go_wp2
  go_ret2
  exact ⟨rfl, rfl⟩
set_option maxHeartbeats 400000 in
theorem get64_yes (s : ByteArray) (w : World) (h8 : s.size = 8) :
    Calls Try.prog 88 #[.string s] w fun e w' => e = .returned (.tuple #[.int .u64 (getL s.data.toList : Int), .int .i64 0]) ∧ w = w' := by
  have hb : ((s.size : Int) != 8) = false := by simp; omega
  have h8' := hide h8
  have h9 : 8 ≤ s.size := by omega
  clear h8
  go_enter Try.func88, Try.ntmps88
  go_wp2
  go_loop [4, 9] (fun x i => ∃ k : Nat, k ≤ 8 ∧ i = .int .i64 k ∧ x = .int .u64 (getL (s.data.toList.take k) : Int)) (fun _ i => 8 - (intOf i).toNat)
  case atStart => exact ⟨0, by omega, rfl, rfl⟩
  case round =>
    obtain ⟨k, hk, rfl, rfl⟩ := hrel
    by_cases hlt : k < 8
    · go_wp2
      go_round
      case rel => exact ⟨k + 1, by omega, by go_num, by rw [or_walk _ _ k hlt (by simp; omega), take_snoc s k (by omega)]⟩
      case measure => simp [intOf]; omega
    · obtain rfl : k = 8 := by omega
      go_wp2
      go_ret2
      exact ⟨by rw [List.take_of_length_le (by simp [h8'.out])]; rfl, rfl⟩
theorem ret_got {k : IntKind} {a b : Int} {c d : Int} (h : a = b) (h' : c = d) : Ending.returned (.tuple #[.int k a, .int .i64 c]) = .returned (.tuple #[.int k b, .int .i64 d]) := by rw [h, h']
theorem get64_w (s : ByteArray) (w : World) :
    Calls Try.prog 88 #[.string s] w fun e w' => e = .returned (.tuple #[.int .u64 (gotN 8 s.data.toList : Int), .int .i64 (gotE 8 s.data.toList)]) ∧ w = w' := by
  by_cases h : s.size = 8
  · have hg := got_yes 8 s.data.toList (by simpa using h)
    rw [hg.1, hg.2]
    exact get64_yes s w h
  · have hg := got_no 8 s.data.toList (by simpa using h)
    rw [hg.1, hg.2]
    exact get64_no s w h
theorem app_zero (s : ByteArray) : (s ++ (⟨#[0, 0, 0, 0]⟩ : ByteArray)).data.toList = s.data.toList ++ [0, 0, 0, 0] := by simp
theorem get64_pad (s : ByteArray) (w : World) (h : s.size = 4) :
    Calls Try.prog 88 #[.string (s ++ ⟨#[0, 0, 0, 0]⟩)] w fun e w' => e = .returned (.tuple #[.int .u64 (getL s.data.toList : Int), .int .i64 0]) ∧ w = w' := by
  have := get64_yes (s ++ ⟨#[0, 0, 0, 0]⟩) w (by simp [h]; rfl)
  rw [app_zero, getL_zero] at this
  exact this
set_option maxHeartbeats 400000 in
theorem get32_w (s : ByteArray) (w : World) (_hs : s.size ≤ maxLen) :
    Calls Try.prog 90 #[.string s] w fun e w' => e = .returned (.tuple #[.int .u32 (gotN 4 s.data.toList : Int), .int .i64 (gotE 4 s.data.toList)]) ∧ w = w' := by
  by_cases h : s.size = 4
  · have hg := got_yes 4 s.data.toList (by simpa using h)
    rw [hg.1, hg.2]
    have hb : ((s.size : Int) != 4) = false := by simp; omega
    have hl : getL s.data.toList < 4294967296 := by
      have := getL_lt s.data.toList
      rw [show s.data.toList.length = 4 from by simpa using h] at this
      simpa using this
    have h' := hide h
    have hle : s.size ≤ 4 := by omega
    clear h hg
    go_enter Try.func90, Try.ntmps90
    go_wp2_with (go_at_call 88; refine (get64_pad s _ h'.out).mono ?_; rintro e w' ⟨rfl, rfl⟩)
    go_ret2
    exact ⟨rfl, rfl⟩
  · have hg := got_no 4 s.data.toList (by simpa using h)
    rw [hg.1, hg.2]
    have hb : ((s.size : Int) != 4) = true := by simp; omega
    clear hg
    go_enter Try.func90, Try.ntmps90
    go_wp2
    go_ret2
    exact ⟨rfl, rfl⟩
theorem heap_new (w : World) (c : Array Value) (E : TypeId) (fr : Nat × Nat) : (w.alloc (.cells c E fr)).drew.heap[w.heap.size]? = some (.cells c E fr) := by
  show (w.heap.push _)[w.heap.size]? = _
  simp
theorem bytesRow_cell (w : World) (s : ByteArray) (E : TypeId) (cap : Nat) (j : Nat) (hj : j < s.size) :
    (w.alloc (Obj.cells (bytesRow s cap) E ((bytesRow s cap).size, (bytesRow s cap).size + 1))).drew.cell? ⟨w.heap.size, j, none⟩ = some (.int .u8 (s[j].toNat : Int)) := by
  have hj' : j < s.data.size := hj
  unfold World.cell?
  simp only [heap_new, Option.isSome_none, Bool.false_eq_true, if_false]
  rw [bytesRow, Array.getElem?_append_left (by simpa using hj'), Array.getElem?_map, Array.getElem?_eq_getElem hj']
  rfl
theorem bytesRow_free (w : World) (s : ByteArray) (E : TypeId) (cap : Nat) (j : Nat) (hj : j < s.size) :
    (w.alloc (Obj.cells (bytesRow s cap) E ((bytesRow s cap).size, (bytesRow s cap).size + 1))).drew.frozen? ⟨w.heap.size, j, none⟩ = false := by
  have hs : s.size ≤ (bytesRow s cap).size := by simp [bytesRow]
  unfold World.frozen?
  simp only [heap_new]
  simp
  omega
end Go.Proofs.Ytiodfbbgbnbdpaa
