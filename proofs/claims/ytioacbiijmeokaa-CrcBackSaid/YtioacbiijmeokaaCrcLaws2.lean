/- The walks of the statements on numbers as bytes: CrcGets, CrcWidths, CrcBack. -/
import Derived.Test.YtioacbiijmeokaaCrcWalks
namespace Go.Proofs.Ytioacbiijmeokaa
open Go.RowKit
open Crc
set_option maxHeartbeats 400000 in
theorem get64_no (s : ByteArray) (w : World) (h8 : s.size ≠ 8) :
    Calls Try.prog 23 #[.string s] w fun e w' => e = .returned (.tuple #[.int .u64 0, .int .i64 14]) ∧ w = w' := by
  have hb : ((s.size : Int) != 8) = true := by simp; omega
  go_enter Try.func23, Try.ntmps23
  go_wp2
  go_ret2
  exact ⟨rfl, rfl⟩
set_option maxHeartbeats 400000 in
theorem get64_yes (s : ByteArray) (w : World) (h8 : s.size = 8) :
    Calls Try.prog 23 #[.string s] w fun e w' => e = .returned (.tuple #[.int .u64 (getL s.data.toList : Int), .int .i64 0]) ∧ w = w' := by
  have hb : ((s.size : Int) != 8) = false := by simp; omega
  have h8' := hide h8
  have h9 : 8 ≤ s.size := by omega
  clear h8
  go_enter Try.func23, Try.ntmps23
  go_wp2
  go_loop [4, 9] (fun x i => ∃ k : Nat, k ≤ 8 ∧ i = .int .i64 k ∧ x = .int .u64 (getL (s.data.toList.take k) : Int)) (fun _ i => 8 - (intOf i).toNat)
  case atStart => exact ⟨0, by omega, rfl, rfl⟩
  case round =>
    obtain ⟨k, hk, rfl, rfl⟩ := hrel
    by_cases hlt : k < 8
    · go_wp2
      go_round
      case rel => exact ⟨k + 1, by omega, by go_num, by rw [or_walk _ _ k hlt (by simp; omega), take_snoc s k (by omega)]⟩
      case measure => simp [intOf]; omega
    · obtain rfl : k = 8 := by omega
      go_wp2
      go_ret2
      exact ⟨by rw [List.take_of_length_le (by simp [h8'.out])]; rfl, rfl⟩
set_option maxHeartbeats 400000 in
theorem refget_w (s : ByteArray) (w : World) (h8 : s.size ≤ 8) :
    Calls Try.prog 33 #[.string s] w fun e w' => e = .returned (.int .u64 (getL s.data.toList : Int)) ∧ w = w' := by
  go_enter Try.func33, Try.ntmps33
  go_wp2
  go_loop [3, 4] (fun x i => ∃ k : Nat, k ≤ s.size ∧ i = .int .i64 ((k : Int) - 1) ∧ x = .int .u64 (getL (s.data.toList.drop k) : Int)) (fun _ i => ((intOf i) + 1).toNat)
  case atStart => exact ⟨s.size, by omega, rfl, by rw [List.drop_of_length_le (by simp)]; rfl⟩
  case round =>
    obtain ⟨k, hk, rfl, rfl⟩ := hrel
    by_cases hlt : 0 < k
    · obtain ⟨j, rfl⟩ : ∃ j, k = j + 1 := ⟨k - 1, by omega⟩
      have hj : (((j + 1 : Nat) : Int) - 1) = j := by omega
      rw [hj]
      clear hj
      go_wp2
      go_round
      case rel => exact ⟨j, by omega, rfl, by rw [get_walk _ _ (by simp; omega), drop_cons s j (by omega)]⟩
      case measure => simp [intOf]
    · obtain rfl : k = 0 := by omega
      go_wp2
      go_ret
      exact ⟨rfl, rfl⟩
theorem ret_got {k : IntKind} {a b : Int} {c d : Int} (h : a = b) (h' : c = d) : Ending.returned (.tuple #[.int k a, .int .i64 c]) = .returned (.tuple #[.int k b, .int .i64 d]) := by rw [h, h']
theorem get64_w (s : ByteArray) (w : World) :
    Calls Try.prog 23 #[.string s] w fun e w' => e = .returned (.tuple #[.int .u64 (gotN 8 s.data.toList : Int), .int .i64 (gotE 8 s.data.toList)]) ∧ w = w' := by
  by_cases h : s.size = 8
  · have hg := got_yes 8 s.data.toList (by simpa using h)
    rw [hg.1, hg.2]
    exact get64_yes s w h
  · have hg := got_no 8 s.data.toList (by simpa using h)
    rw [hg.1, hg.2]
    exact get64_no s w h
theorem app_zero (s : ByteArray) : (s ++ (⟨#[0, 0, 0, 0]⟩ : ByteArray)).data.toList = s.data.toList ++ [0, 0, 0, 0] := by simp
theorem get64_pad (s : ByteArray) (w : World) (h : s.size = 4) :
    Calls Try.prog 23 #[.string (s ++ ⟨#[0, 0, 0, 0]⟩)] w fun e w' => e = .returned (.tuple #[.int .u64 (getL s.data.toList : Int), .int .i64 0]) ∧ w = w' := by
  have := get64_yes (s ++ ⟨#[0, 0, 0, 0]⟩) w (by simp [h]; rfl)
  rw [app_zero, getL_zero] at this
  exact this
set_option maxHeartbeats 400000 in
theorem get32_w (s : ByteArray) (w : World) (_hs : s.size ≤ maxLen) :
    Calls Try.prog 21 #[.string s] w fun e w' => e = .returned (.tuple #[.int .u32 (gotN 4 s.data.toList : Int), .int .i64 (gotE 4 s.data.toList)]) ∧ w = w' := by
  by_cases h : s.size = 4
  · have hg := got_yes 4 s.data.toList (by simpa using h)
    rw [hg.1, hg.2]
    have hb : ((s.size : Int) != 4) = false := by simp; omega
    have hl : getL s.data.toList < 4294967296 := by
      have := getL_lt s.data.toList
      rw [show s.data.toList.length = 4 from by simpa using h] at this
      simpa using this
    have h' := hide h
    have hle : s.size ≤ 4 := by omega
    clear h hg
    go_enter Try.func21, Try.ntmps21
    go_wp2_with (go_at_call 23; refine (get64_pad s _ h'.out).mono ?_; rintro e w' ⟨rfl, rfl⟩)
    go_ret2
    exact ⟨rfl, rfl⟩
  · have hg := got_no 4 s.data.toList (by simpa using h)
    rw [hg.1, hg.2]
    have hb : ((s.size : Int) != 4) = true := by simp; omega
    clear hg
    go_enter Try.func21, Try.ntmps21
    go_wp2
    go_ret2
    exact ⟨rfl, rfl⟩
set_option maxHeartbeats 400000 in
theorem refget32_w (s : ByteArray) (w : World) (_hs : s.size ≤ maxLen) :
    Calls Try.prog 22 #[.string s] w fun e w' => e = .returned (.tuple #[.int .u32 (gotN 4 s.data.toList : Int), .int .i64 (gotE 4 s.data.toList)]) ∧ w = w' := by
  by_cases h : s.size = 4
  · have hg := got_yes 4 s.data.toList (by simpa using h)
    rw [hg.1, hg.2]
    have hb : ((s.size : Int) != 4) = false := by simp; omega
    have hl : getL s.data.toList < 4294967296 := by
      have := getL_lt s.data.toList
      rw [show s.data.toList.length = 4 from by simpa using h] at this
      simpa using this
    have h' := hide h
    have hle : s.size ≤ 8 := by omega
    clear h hg
    go_enter Try.func22, Try.ntmps22
    go_wp2_with (go_at_call 33; refine (refget_w s _ hle).mono ?_; rintro e w' ⟨rfl, rfl⟩)
    go_ret2
    exact ⟨rfl, rfl⟩
  · have hg := got_no 4 s.data.toList (by simpa using h)
    rw [hg.1, hg.2]
    have hb : ((s.size : Int) != 4) = true := by simp; omega
    clear hg
    go_enter Try.func22, Try.ntmps22
    go_wp2
    go_ret2
    exact ⟨rfl, rfl⟩
set_option maxHeartbeats 400000 in
theorem refget64_w (s : ByteArray) (w : World) (_hs : s.size ≤ maxLen) :
    Calls Try.prog 24 #[.string s] w fun e w' => e = .returned (.tuple #[.int .u64 (gotN 8 s.data.toList : Int), .int .i64 (gotE 8 s.data.toList)]) ∧ w = w' := by
  by_cases h : s.size = 8
  · have hg := got_yes 8 s.data.toList (by simpa using h)
    rw [hg.1, hg.2]
    have hb : ((s.size : Int) != 8) = false := by simp; omega
    have h' := hide h
    have hle : s.size ≤ 8 := by omega
    clear h hg
    go_enter Try.func24, Try.ntmps24
    go_wp2_with (go_at_call 33; refine (refget_w s _ hle).mono ?_; rintro e w' ⟨rfl, rfl⟩)
    go_ret2
    exact ⟨rfl, rfl⟩
  · have hg := got_no 8 s.data.toList (by simpa using h)
    rw [hg.1, hg.2]
    have hb : ((s.size : Int) != 8) = true := by simp; omega
    clear hg
    go_enter Try.func24, Try.ntmps24
    go_wp2
    go_ret2
    exact ⟨rfl, rfl⟩
theorem get32_258 (w : World) :
    Calls Try.prog 21 #[.string ⟨#[2, 1, 0, 0]⟩] w fun e w' => e = .returned (.tuple #[.int .u32 258, .int .i64 0]) ∧ w = w' := by
  have := get32_w ⟨#[2, 1, 0, 0]⟩ w (by decide)
  rw [show gotN 4 (ByteArray.mk #[2, 1, 0, 0]).data.toList = 258 from by decide +kernel, show gotE 4 (ByteArray.mk #[2, 1, 0, 0]).data.toList = 0 from by decide +kernel] at this
  exact this
set_option maxHeartbeats 400000 in
theorem crcgets_w (s : ByteArray) (w : World) (hs0 : s.size ≤ 140737488351232) :
    Calls Try.prog 5 #[.string s] w fun e w' => e = .returned (.bool true) ∧ Below w.heap.size w w' := by
  have hs : s.size ≤ maxLen := by unfold maxLen; omega
  go_enter Try.func5, Try.ntmps5
  go_wp2_with fail
  refine (get32_w s _ hs).mono ?_
  rintro e w1 ⟨rfl, rfl⟩
  go_wp2_with (first
    | (go_at_call 23; refine (get64_w s _).mono ?_; rintro e w1 ⟨rfl, rfl⟩)
    | (go_at_call 22; refine (refget32_w s _ hs).mono ?_; rintro e w1 ⟨rfl, rfl⟩)
    | (go_at_call 24; refine (refget64_w s _ hs).mono ?_; rintro e w1 ⟨rfl, rfl⟩)
    | (go_at_call 21; refine (get32_258 _).mono ?_; rintro e w1 ⟨rfl, rfl⟩))
  go_ret
  exact ⟨rfl, Below.refl _ _⟩
/-! ### There and back -/
theorem zero_str (n : Nat) (h : n < 4294967296) : str (putL n 8) = str (putL n 4) ++ (⟨#[0, 0, 0, 0]⟩ : ByteArray) := by
  rw [putL_small n h, ← str_append]; rfl
theorem put64_small (n : Nat) (w : World) (h : n < 4294967296) :
    Calls Try.prog 17 #[.int .u64 (n : Int)] w fun e w' => e = .returned (.string (str (putL n 4) ++ ⟨#[0, 0, 0, 0]⟩)) ∧ Below w.heap.size w w' := by
  rw [← zero_str n h]; exact put64_w n w
theorem get64_small (n : Nat) (w : World) (h : n < 4294967296) :
    Calls Try.prog 23 #[.string (str (putL n 4) ++ ⟨#[0, 0, 0, 0]⟩)] w fun e w' => e = .returned (.tuple #[.int .u64 (n : Int), .int .i64 0]) ∧ w = w' := by
  have := get64_pad (str (putL n 4)) w (by rw [str_size, putL_length])
  rw [str_data, getL_put4 n h] at this
  exact this
theorem get32_put (n : Nat) (w : World) (h : n < 4294967296) :
    Calls Try.prog 21 #[.string (str (putL n 4))] w fun e w' => e = .returned (.tuple #[.int .u32 (n : Int), .int .i64 0]) ∧ w = w' := by
  have := get32_w (str (putL n 4)) w (by rw [str_size, putL_length]; decide)
  have hg := got_yes 4 (putL n 4) (putL_length n 4)
  rw [str_data, hg.1, hg.2, getL_put4 n h] at this
  exact this
theorem get64_put (n : Nat) (w : World) (h : n < 18446744073709551616) :
    Calls Try.prog 23 #[.string (str (putL n 8))] w fun e w' => e = .returned (.tuple #[.int .u64 (n : Int), .int .i64 0]) ∧ w = w' := by
  have := get64_w (str (putL n 8)) w
  have hg := got_yes 8 (putL n 8) (putL_length n 8)
  rw [str_data, hg.1, hg.2, getL_put8 n h] at this
  exact this
theorem get32_put8 (n : Nat) (w : World) :
    Calls Try.prog 21 #[.string (str (putL n 8))] w fun e w' => e = .returned (.tuple #[.int .u32 0, .int .i64 14]) ∧ w = w' := by
  have := get32_w (str (putL n 8)) w (by rw [str_size, putL_length]; decide)
  have hg := got_no 4 (putL n 8) (by rw [putL_length]; decide)
  rw [str_data, hg.1, hg.2] at this
  exact this
set_option maxHeartbeats 400000 in
theorem crcwidths_w (n : Nat) (w : World) (hn : n < 4294967296) :
    Calls Try.prog 6 #[.int .u32 (n : Int)] w fun e w' => e = .returned (.bool true) ∧ Below w.heap.size w w' := by
  have hsz : (str (putL n 4)).size = 4 := by rw [str_size, putL_length]
  go_enter Try.func6, Try.ntmps6
  go_wp2_with fail
  refine (put64_small n _ hn).mono ?_
  rintro e w1 ⟨rfl, hb1⟩
  go_wp2_with fail
  refine (put32_w n _ hn).mono ?_
  rintro e w2 ⟨rfl, hb2⟩
  go_wp2_with fail
  refine (get64_small n _ hn).mono ?_
  rintro e w3 ⟨rfl, rfl⟩
  go_wp2_with (first
    | (go_at_call 14; refine (numbers_w _).mono ?_; rintro e w4 ⟨rfl, hb4⟩)
    | (go_at_call 15; refine (put32_w n _ hn).mono ?_; rintro e w5 ⟨rfl, hb5⟩))
  go_ret
  exact ⟨rfl, bt (bt (bt hb1 hb2) hb4) hb5⟩
set_option maxHeartbeats 400000 in
theorem crcback_w (n m : Nat) (w : World) (hn : n < 4294967296) (hm : m < 18446744073709551616) :
    Calls Try.prog 11 #[.int .u32 (n : Int), .int .u64 (m : Int)] w fun e w' => e = .returned (.bool true) ∧ Below w.heap.size w w' := by
  go_enter Try.func11, Try.ntmps11
  go_wp2_with fail
  refine (put32_w n _ hn).mono ?_
  rintro e w1 ⟨rfl, hb1⟩
  go_wp2_with fail
  refine (get32_put n _ hn).mono ?_
  rintro e w2 ⟨rfl, rfl⟩
  go_wp2_with fail
  refine (put64_w m _).mono ?_
  rintro e w3 ⟨rfl, hb3⟩
  go_wp2_with fail
  refine (get64_put m _ hm).mono ?_
  rintro e w2 ⟨rfl, rfl⟩
  go_wp2_with fail
  refine (put64_w m _).mono ?_
  rintro e w4 ⟨rfl, hb4⟩
  go_wp2_with fail
  refine (get32_put8 m _).mono ?_
  rintro e w2 ⟨rfl, rfl⟩
  go_wp2_with (go_at_call 14; refine (numbers_w _).mono ?_; rintro e w5 ⟨rfl, hb5⟩)
  go_ret
  exact ⟨rfl, bt (bt (bt hb1 hb3) hb4) hb5⟩
end Go.Proofs.Ytioacbiijmeokaa
