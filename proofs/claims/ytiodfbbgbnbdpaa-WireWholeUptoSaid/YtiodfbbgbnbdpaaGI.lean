/- Several small texts of this proof, one behind the other. -/
import Derived.Test.YtiodfbbgbnbdpaaCrcB
section
/- The document: Put32, Put64, Sum of chapter 01. -/
namespace Go.Proofs.Ytiodfbbgbnbdpaa
open Go.RowKit
open Crc
set_option maxHeartbeats 400000 in
theorem refput_w (n m : Nat) (w : World) (hm : m ≤ 8) (hn : n < 18446744073709551616) :
    Calls Try.prog 36 #[.int .u64 (n : Int), .int .i64 m] w fun e w' => e = .returned (.string (str (putL n m))) ∧ Below w.heap.size w w' := by
  obtain ⟨i0, hi, hz0, hz1, hz2⟩ := info_parts Try.info5
  go_enter Try.func36, Try.ntmps36
  go_wp2
  go_loopw [0, 5, 6] (fun x v i wr => ∃ k : Nat, k ≤ m ∧ i = .int .i64 k ∧ x = .int .u64 (dv n k : Int) ∧ wr.ownsRow w.heap.size 5 1 v k (cellsOf (putL n k)) ∧ Below w.heap.size w wr) (fun _ _ i _ => m - (intOf i).toNat)
  case atStart => exact ⟨0, by omega, rfl, by rw [dv_zero], World.ownsRow_nil _ _ _ _, Below.refl _ _⟩
  case round =>
    obtain ⟨k, hk, rfl, rfl, hown, hb⟩ := hrel
    by_cases hlt : k < m
    · have hmw : Hid _ := mod_walk n k
      have hdv := dv_le n k
      go_wp2_with (at_builtin; refine wpList_append_own _ rfl _ _ 51 rfl w.heap.size 5 i0 (.int .u8 0) 1 1 Try.underlying51 hi hz0 hz1 hz2 rfl (by decide) _ _ _ rfl (hown.alloc _) ⟨wr.heap.size, 0, none⟩ 1 1 [.int .u8 ((byteAt n k).toNat : Int)] rfl rfl ?c1 ?c2 ?c3 ?c4 ?c5 ?_)
      case c1 =>
        rw [hmw.out]
        exact cell_one_new _ _ _
      case c2 => intro u hu; simp at hu; subst hu; rfl
      case c3 => unfold maxLen; omega
      case c4 => omega
      case c5 => have := hb.size; simp; omega
      intro v' w1 hown' hgrow _
      have hb' : Below w.heap.size w w1 := (hb.alloc hb.size _).grown hgrow (by have := hb.size; simp; omega) (fun j hj => (hown.lt j hj).1)
      have hown2 : w1.ownsRow w.heap.size 5 1 v' (k + 1) (cellsOf (putL n (k + 1))) := by rw [putL_succ, cellsOf_append]; exact hown'
      clear hown' hgrow hown hb
      go_wp2
      go_roundw
      case rel => exact ⟨k + 1, by omega, by go_num, by rw [← div_step], hown2, hb'⟩
      case measure => simp [intOf]; omega
    · obtain rfl : k = m := by omega
      have hcv := own_string (P := Try.prog) 51 9 5 Try.underlying51 Try.underlying5 Try.underlying9 hown
      go_wp2
      go_ret
      exact ⟨rfl, hb⟩
set_option maxHeartbeats 400000 in
theorem refput64_w (n : Nat) (w : World) (hn : n < 18446744073709551616) :
    Calls Try.prog 23 #[.int .u64 (n : Int)] w fun e w' => e = .returned (.string (str (putL n 8))) ∧ Below w.heap.size w w' := by
  go_enter Try.func23, Try.ntmps23
  go_wp2_with (go_at_call 36; refine (refput_w _ 8 _ (by omega) hn).mono ?_; rintro e w' ⟨rfl, hb⟩)
  go_ret
  exact ⟨rfl, hb⟩
set_option maxHeartbeats 400000 in
theorem refput32_w (n : Nat) (w : World) (hn : n < 4294967296) :
    Calls Try.prog 37 #[.int .u32 (n : Int)] w fun e w' => e = .returned (.string (str (putL n 4))) ∧ Below w.heap.size w w' := by
  go_enter Try.func37, Try.ntmps37
  go_wp2_with (go_at_call 36; refine (refput_w _ 4 _ (by omega) (by omega)).mono ?_; rintro e w' ⟨rfl, hb⟩)
  go_ret
  exact ⟨rfl, hb⟩
end Go.Proofs.Ytiodfbbgbnbdpaa
end
section
/- The document: Get32, Get64 of chapter 01. -/
namespace Go.Proofs.Ytiodfbbgbnbdpaa
open Go.RowKit
open Crc
set_option maxHeartbeats 400000 in
theorem refget_w (s : ByteArray) (w : World) (h8 : s.size ≤ 8) :
    Calls Try.prog 45 #[.string s] w fun e w' => e = .returned (.int .u64 (getL s.data.toList : Int)) ∧ w = w' := by
  go_enter Try.func45, Try.ntmps45
  go_wp2
  go_loop [3, 4] (fun x i => ∃ k : Nat, k ≤ s.size ∧ i = .int .i64 ((k : Int) - 1) ∧ x = .int .u64 (getL (s.data.toList.drop k) : Int)) (fun _ i => ((intOf i) + 1).toNat)
  case atStart => exact ⟨s.size, by omega, rfl, by rw [List.drop_of_length_le (by simp)]; rfl⟩
  case round =>
    obtain ⟨k, hk, rfl, rfl⟩ := hrel
    by_cases hlt : 0 < k
    · obtain ⟨j, rfl⟩ : ∃ j, k = j + 1 := ⟨k - 1, by omega⟩
      have hj : (((j + 1 : Nat) : Int) - 1) = j := by omega
      rw [hj]
      clear hj
      go_wp2
      go_round
      case rel => exact ⟨j, by omega, rfl, by rw [get_walk _ _ (by simp; omega), drop_cons s j (by omega)]⟩
      case measure => simp [intOf]
    · obtain rfl : k = 0 := by omega
      go_wp2
      go_ret
      exact ⟨rfl, rfl⟩
set_option maxHeartbeats 400000 in
theorem refget32_w (s : ByteArray) (w : World) (_hs : s.size ≤ maxLen) :
    Calls Try.prog 41 #[.string s] w fun e w' => e = .returned (.tuple #[.int .u32 (gotN 4 s.data.toList : Int), .int .i64 (gotE 4 s.data.toList)]) ∧ w = w' := by
  by_cases h : s.size = 4
  · have hg := got_yes 4 s.data.toList (by simpa using h)
    rw [hg.1, hg.2]
    have hb : ((s.size : Int) != 4) = false := by simp; omega
    have hl : getL s.data.toList < 4294967296 := by
      have := getL_lt s.data.toList
      rw [show s.data.toList.length = 4 from by simpa using h] at this
      simpa using this
    have h' := hide h
    have hle : s.size ≤ 8 := by omega
    clear h hg
    go_enter Try.func41, Try.ntmps41
    go_wp2_with (go_at_call 45; refine (refget_w s _ hle).mono ?_; rintro e w' ⟨rfl, rfl⟩)
    go_ret2
    exact ⟨rfl, rfl⟩
  · have hg := got_no 4 s.data.toList (by simpa using h)
    rw [hg.1, hg.2]
    have hb : ((s.size : Int) != 4) = true := by simp; omega
    clear hg
    go_enter Try.func41, Try.ntmps41
    go_wp2
    go_ret2
    exact ⟨rfl, rfl⟩
set_option maxHeartbeats 400000 in
theorem refget64_w (s : ByteArray) (w : World) (_hs : s.size ≤ maxLen) :
    Calls Try.prog 39 #[.string s] w fun e w' => e = .returned (.tuple #[.int .u64 (gotN 8 s.data.toList : Int), .int .i64 (gotE 8 s.data.toList)]) ∧ w = w' := by
  by_cases h : s.size = 8
  · have hg := got_yes 8 s.data.toList (by simpa using h)
    rw [hg.1, hg.2]
    have hb : ((s.size : Int) != 8) = false := by simp; omega
    have h' := hide h
    have hle : s.size ≤ 8 := by omega
    clear h hg
    go_enter Try.func39, Try.ntmps39
    go_wp2_with (go_at_call 45; refine (refget_w s _ hle).mono ?_; rintro e w' ⟨rfl, rfl⟩)
    go_ret2
    exact ⟨rfl, rfl⟩
  · have hg := got_no 8 s.data.toList (by simpa using h)
    rw [hg.1, hg.2]
    have hb : ((s.size : Int) != 8) = true := by simp; omega
    clear hg
    go_enter Try.func39, Try.ntmps39
    go_wp2
    go_ret2
    exact ⟨rfl, rfl⟩
end Go.Proofs.Ytiodfbbgbnbdpaa
end
