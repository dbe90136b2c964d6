/- The walks of package crc's functions: what each returns; memory is left as it was, or new blocks alone are made. -/
import Derived.Test.YtioacbiijmeokaaCrcPlain
namespace Go.Proofs.Ytioacbiijmeokaa
open Go.RowKit
open Crc
set_option maxHeartbeats 400000 in
theorem bit_w (c : BitVec 32) (w : World) :
    Calls Try.prog 37 #[.int .u32 (c.toNat : Int)] w fun e w' => e = .returned (.int .u32 ((bit c).toNat : Int)) ∧ w = w' := by
  go_enter Try.func37, Try.ntmps37
  go_wp2
  go_ret
  exact ⟨ret_int (bit_walk c), rfl⟩

set_option maxHeartbeats 400000 in
theorem eat_w (c : BitVec 32) (b : UInt8) (w : World) :
    Calls Try.prog 34 #[.int .u32 (c.toNat : Int), .int .u8 (b.toNat : Int)] w fun e w' => e = .returned (.int .u32 ((eat c b).toNat : Int)) ∧ w = w' := by
  have hx : Hid _ := eat_walk c b
  go_enter Try.func34, Try.ntmps34
  go_wp2
  go_loop [0, 10] (fun x i => ∃ k : Nat, k ≤ 8 ∧ i = .int .i64 k ∧ x = .int .u32 ((bits8 k (c ^^^ byte32 b)).toNat : Int)) (fun _ i => 8 - (intOf i).toNat)
  case atStart => exact ⟨0, by omega, rfl, by rw [hx.out]; rfl⟩
  case round =>
    obtain ⟨k, hk, rfl, rfl⟩ := hrel
    by_cases hlt : k < 8
    · go_wp2_with (go_at_call 37; refine (bit_w _ _).mono ?_; rintro e w' ⟨rfl, rfl⟩)
      go_round
      case rel => exact ⟨k + 1, by omega, by go_num, rfl⟩
      case measure => simp [intOf]; omega
    · obtain rfl : k = 8 := by omega
      go_wp2
      go_ret
      exact ⟨rfl, rfl⟩

set_option maxHeartbeats 400000 in
theorem more_w (c : BitVec 32) (s : ByteArray) (w : World) (hs : s.size ≤ maxLen) :
    Calls Try.prog 25 #[.int .u32 (c.toNat : Int), .string s] w fun e w' => e = .returned (.int .u32 ((more c s.data.toList).toNat : Int)) ∧ w = w' := by
  unfold maxLen at hs
  go_enter Try.func25, Try.ntmps25
  go_wp2
  rw [not_walk]
  go_loop [5, 11] (fun x i => ∃ k : Nat, k ≤ s.size ∧ i = .int .i64 k ∧ x = .int .u32 ((run (inv c) (s.data.toList.take k)).toNat : Int)) (fun _ i => s.size - (intOf i).toNat)
  case atStart => exact ⟨0, by omega, rfl, rfl⟩
  case round =>
    obtain ⟨k, hk, rfl, rfl⟩ := hrel
    by_cases hlt : k < s.size
    · go_wp2_with (go_at_call 34; refine (eat_w _ _ _).mono ?_; rintro e w' ⟨rfl, rfl⟩)
      go_round
      case rel => exact ⟨k + 1, by omega, by go_num, by rw [take_snoc s k hlt, run_append]; rfl⟩
      case measure => simp [intOf]; omega
    · go_wp2
      go_ret
      exact ⟨ret_int (by rw [not_walk, List.take_of_length_le (by simp; omega)]; rfl), rfl⟩

set_option maxHeartbeats 400000 in
theorem sum_w (s : ByteArray) (w : World) (hs : s.size ≤ maxLen) :
    Calls Try.prog 28 #[.string s] w fun e w' => e = .returned (.int .u32 ((more 0#32 s.data.toList).toNat : Int)) ∧ w = w' := by
  go_enter Try.func28, Try.ntmps28
  go_wp2_with (go_at_call 25; refine (more_w 0#32 _ _ hs).mono ?_; rintro e w' ⟨rfl, rfl⟩)
  go_ret
  exact ⟨rfl, rfl⟩
set_option maxHeartbeats 400000 in
theorem put64_w (n : Nat) (w : World) :
    Calls Try.prog 17 #[.int .u64 (n : Int)] w fun e w' => e = .returned (.string (str (putL n 8))) ∧ Below w.heap.size w w' := by
  go_enter Try.func17, Try.ntmps17
  go_wp2
  go_loopw [5] (fun i wr => ∃ k : Nat, k ≤ 8 ∧ i = .int .i64 k ∧ wr = w.alloc (.cells (putCells n k) 47)) (fun i _ => 8 - (intOf i).toNat)
  case atStart => exact ⟨0, by omega, rfl, rfl⟩
  case round =>
    obtain ⟨k, hk, rfl, rfl⟩ := hrel
    by_cases hlt : k < 8
    · have hsz := putCells_size n k
      have hg := putCells_get n k hlt
      go_wp2
      go_roundw
      case rel => exact ⟨k + 1, by omega, by go_num, by rw [byteAt_walk, putCells_set]⟩
      case measure => simp [intOf]; omega
    · obtain rfl : k = 8 := by omega
      have hcv := back_cells (P := Try.prog) w 48 9 5 47 (putL n 8) 8 (putL_length _ _) Try.underlying48 Try.underlying5 Try.underlying9 8
      rw [putCells_eight]
      go_wp2
      go_ret
      exact ⟨rfl, (Below.refl _ _).alloc (Nat.le_refl _) _⟩
set_option maxHeartbeats 400000 in
theorem put32_w (n : Nat) (w : World) (hn : n < 4294967296) :
    Calls Try.prog 15 #[.int .u32 (n : Int)] w fun e w' => e = .returned (.string (str (putL n 4))) ∧ Below w.heap.size w w' := by
  have hsz : (str (putL n 8)).size = 8 := by rw [str_size, putL_length]
  have hex : (str (putL n 8)).extract 0 4 = str (putL n 4) := by rw [str_extract, List.drop_zero, putL_take _ _ _ (by omega)]
  go_enter Try.func15, Try.ntmps15
  go_wp2_with (go_at_call 17; refine (put64_w _ _).mono ?_; rintro e w' ⟨rfl, hb⟩)
  go_ret
  exact ⟨rfl, hb⟩
theorem Try.info5 : (Try.prog.info? 5).map (fun i => (i.zero, i.size, i.bytes)) = some (some (.int .u8 0), 1, 1) := by kernel_rfl
set_option maxHeartbeats 400000 in
theorem refput_w (n m : Nat) (w : World) (hm : m ≤ 8) (hn : n < 18446744073709551616) :
    Calls Try.prog 32 #[.int .u64 (n : Int), .int .i64 m] w fun e w' => e = .returned (.string (str (putL n m))) ∧ Below w.heap.size w w' := by
  obtain ⟨i0, hi, hz0, hz1, hz2⟩ := info_parts Try.info5
  go_enter Try.func32, Try.ntmps32
  go_wp2
  go_loopw [0, 5, 6] (fun x v i wr => ∃ k : Nat, k ≤ m ∧ i = .int .i64 k ∧ x = .int .u64 (dv n k : Int) ∧ wr.ownsRow w.heap.size 5 1 v k (cellsOf (putL n k)) ∧ Below w.heap.size w wr) (fun _ _ i _ => m - (intOf i).toNat)
  case atStart => exact ⟨0, by omega, rfl, by rw [dv_zero], World.ownsRow_nil _ _ _ _, Below.refl _ _⟩
  case round =>
    obtain ⟨k, hk, rfl, rfl, hown, hb⟩ := hrel
    by_cases hlt : k < m
    · have hmw : Hid _ := mod_walk n k
      have hdv := dv_le n k
      go_wp2_with (at_builtin; refine wpList_append_own _ rfl _ _ 48 rfl w.heap.size 5 i0 (.int .u8 0) 1 1 Try.underlying48 hi hz0 hz1 hz2 rfl (by decide) _ _ _ rfl (hown.alloc _) ⟨wr.heap.size, 0, none⟩ 1 1 [.int .u8 ((byteAt n k).toNat : Int)] rfl rfl ?c1 ?c2 ?c3 ?c4 ?c5 ?_)
      case c1 =>
        rw [hmw.out]
        exact cell_one_new _ _ _
      case c2 => intro u hu; simp at hu; subst hu; rfl
      case c3 => unfold maxLen; omega
      case c4 => omega
      case c5 => have := hb.size; simp; omega
      intro v' w1 hown' hgrow _
      have hb' : Below w.heap.size w w1 := (hb.alloc hb.size _).grown hgrow (by have := hb.size; simp; omega) (fun j hj => (hown.lt j hj).1)
      have hown2 : w1.ownsRow w.heap.size 5 1 v' (k + 1) (cellsOf (putL n (k + 1))) := by rw [putL_succ, cellsOf_append]; exact hown'
      clear hown' hgrow hown hb
      go_wp2
      go_roundw
      case rel => exact ⟨k + 1, by omega, by go_num, by rw [← div_step], hown2, hb'⟩
      case measure => simp [intOf]; omega
    · obtain rfl : k = m := by omega
      have hcv := own_string (P := Try.prog) 48 9 5 Try.underlying48 Try.underlying5 Try.underlying9 hown
      go_wp2
      go_ret
      exact ⟨rfl, hb⟩
set_option maxHeartbeats 400000 in
theorem refput64_w (n : Nat) (w : World) (hn : n < 18446744073709551616) :
    Calls Try.prog 18 #[.int .u64 (n : Int)] w fun e w' => e = .returned (.string (str (putL n 8))) ∧ Below w.heap.size w w' := by
  go_enter Try.func18, Try.ntmps18
  go_wp2_with (go_at_call 32; refine (refput_w _ 8 _ (by omega) hn).mono ?_; rintro e w' ⟨rfl, hb⟩)
  go_ret
  exact ⟨rfl, hb⟩
set_option maxHeartbeats 400000 in
theorem refput32_w (n : Nat) (w : World) (hn : n < 4294967296) :
    Calls Try.prog 16 #[.int .u32 (n : Int)] w fun e w' => e = .returned (.string (str (putL n 4))) ∧ Below w.heap.size w w' := by
  go_enter Try.func16, Try.ntmps16
  go_wp2_with (go_at_call 32; refine (refput_w _ 4 _ (by omega) (by omega)).mono ?_; rintro e w' ⟨rfl, hb⟩)
  go_ret
  exact ⟨rfl, hb⟩
theorem numbers_put : str (putL 258 4) = ⟨#[2, 1, 0, 0]⟩ := by decide +kernel
set_option maxHeartbeats 400000 in
theorem numbers_w (w : World) :
    Calls Try.prog 14 #[] w fun e w' => e = .returned (.bool true) ∧ Below w.heap.size w w' := by
  go_enter Try.func14, Try.ntmps14
  go_wp2_with (go_at_call 15; refine (put32_w 258 _ (by omega)).mono ?_; rintro e w' ⟨rfl, hb⟩)
  go_ret
  exact ⟨ret_bool (by rw [numbers_put]; decide +kernel), hb⟩
set_option maxHeartbeats 400000 in
theorem crcputs_w (n m : Nat) (w : World) (hn : n < 4294967296) (hm : m < 18446744073709551616) :
    Calls Try.prog 3 #[.int .u32 (n : Int), .int .u64 (m : Int)] w fun e w' => e = .returned (.bool true) ∧ Below w.heap.size w w' := by
  go_enter Try.func3, Try.ntmps3
  go_wp2_with (first
    | (go_at_call 14; refine (numbers_w _).mono ?_; rintro e w1 ⟨rfl, hb1⟩)
    | (go_at_call 15; refine (put32_w n _ hn).mono ?_; rintro e w2 ⟨rfl, hb2⟩)
    | (go_at_call 16; refine (refput32_w n _ hn).mono ?_; rintro e w3 ⟨rfl, hb3⟩)
    | (go_at_call 17; refine (put64_w m _).mono ?_; rintro e w4 ⟨rfl, hb4⟩)
    | (go_at_call 18; refine (refput64_w m _ hm).mono ?_; rintro e w5 ⟨rfl, hb5⟩))
  go_ret
  exact ⟨rfl, bt (bt (bt (bt hb1 hb2) hb3) hb4) hb5⟩
end Go.Proofs.Ytioacbiijmeokaa
