/- The document: Put32, Put64, Sum of chapter 01. -/
import Derived.Test.YtdgonhmipecjpaaCrcB
namespace Go.Proofs.Ytdgonhmipecjpaa
open Go.RowKit
open Crc
set_option maxHeartbeats 400000 in
theorem refput_w (n m : Nat) (w : World) (hm : m ≤ 8) (hn : n < 18446744073709551616) :
    Calls Try.prog 96 #[.int .u64 (n : Int), .int .i64 m] w fun e w' => e = .returned (.string (str (putL n m))) ∧ Below w.heap.size w w' := by
  obtain ⟨i0, hi, hz0, hz1, hz2⟩ := info_parts Try.info5
  go_enter Try.func96, Try.ntmps96
  go_wp2
  go_loopw [0, 5, 6] (fun x v i wr => ∃ k : Nat, k ≤ m ∧ i = .int .i64 k ∧ x = .int .u64 (dv n k : Int) ∧ wr.ownsRow w.heap.size 5 1 v k (cellsOf (putL n k)) ∧ Below w.heap.size w wr) (fun _ _ i _ => m - (intOf i).toNat)
  case atStart => exact ⟨0, by omega, rfl, by rw [dv_zero], World.ownsRow_nil _ _ _ _, Below.refl _ _⟩
  case round =>
    obtain ⟨k, hk, rfl, rfl, hown, hb⟩ := hrel
    by_cases hlt : k < m
    · have hmw : Hid _ := mod_walk n k
      have hdv := dv_le n k
      go_wp2_with (at_builtin; refine wpList_append_own _ rfl _ _ 81 rfl w.heap.size 5 i0 (.int .u8 0) 1 1 Try.underlying81 hi hz0 hz1 hz2 rfl (by decide) _ _ _ rfl (hown.alloc _) ⟨wr.heap.size, 0, none⟩ 1 1 [.int .u8 ((byteAt n k).toNat : Int)] rfl rfl ?c1 ?c2 ?c3 ?c4 ?c5 ?_)
      case c1 =>
        rw [hmw.out]
        exact cell_one_new _ _ _
      case c2 => intro u hu; simp at hu; subst hu; rfl
      case c3 => unfold maxLen; omega
      case c4 => omega
      case c5 => have := hb.size; simp; omega
      intro v' w1 hown' hgrow _
      have hb' : Below w.heap.size w w1 := (hb.alloc hb.size _).grown hgrow (by have := hb.size; simp; omega) (fun j hj => (hown.lt j hj).1)
      have hown2 : w1.ownsRow w.heap.size 5 1 v' (k + 1) (cellsOf (putL n (k + 1))) := by rw [putL_succ, cellsOf_append]; exact hown'
      clear hown' hgrow hown hb
      go_wp2
      go_roundw
      case rel => exact ⟨k + 1, by omega, by go_num, by rw [← div_step], hown2, hb'⟩
      case measure => simp [intOf]; omega
    · obtain rfl : k = m := by omega
      have hcv := own_string (P := Try.prog) 81 9 5 Try.underlying81 Try.underlying5 Try.underlying9 hown
      go_wp2
      go_ret
      exact ⟨rfl, hb⟩
set_option maxHeartbeats 400000 in
theorem refput64_w (n : Nat) (w : World) (hn : n < 18446744073709551616) :
    Calls Try.prog 73 #[.int .u64 (n : Int)] w fun e w' => e = .returned (.string (str (putL n 8))) ∧ Below w.heap.size w w' := by
  go_enter Try.func73, Try.ntmps73
  go_wp2_with (go_at_call 96; refine (refput_w _ 8 _ (by omega) hn).mono ?_; rintro e w' ⟨rfl, hb⟩)
  go_ret
  exact ⟨rfl, hb⟩
set_option maxHeartbeats 400000 in
theorem refput32_w (n : Nat) (w : World) (hn : n < 4294967296) :
    Calls Try.prog 74 #[.int .u32 (n : Int)] w fun e w' => e = .returned (.string (str (putL n 4))) ∧ Below w.heap.size w w' := by
  go_enter Try.func74, Try.ntmps74
  go_wp2_with (go_at_call 96; refine (refput_w _ 4 _ (by omega) (by omega)).mono ?_; rintro e w' ⟨rfl, hb⟩)
  go_ret
  exact ⟨rfl, hb⟩
set_option maxHeartbeats 400000 in
theorem refrun_w (c : BitVec 32) (s : ByteArray) (w : World) (hs : s.size ≤ maxLen) :
    Calls Try.prog 76 #[.int .u32 (c.toNat : Int), .string s] w fun e w' => e = .returned (.int .u32 ((run c s.data.toList).toNat : Int)) ∧ w = w' := by
  unfold maxLen at hs
  go_enter Try.func76, Try.ntmps76
  go_wp2
  go_loop [0, 5] (fun x i => ∃ k : Nat, k ≤ s.size ∧ i = .int .i64 k ∧ x = .int .u32 ((run c (s.data.toList.take k)).toNat : Int)) (fun _ i => s.size - (intOf i).toNat)
  case atStart => exact ⟨0, by omega, rfl, rfl⟩
  case round =>
    obtain ⟨k, hk, rfl, rfl⟩ := hrel
    by_cases hlt : k < s.size
    · have hx : Hid _ := eat_walk (run c (s.data.toList.take k)) s[k]
      have hsn : Hid _ := take_snoc s k hlt
      obtain ⟨x, HX⟩ := named (run c (s.data.toList.take k) ^^^ byte32 s[k])
      go_wp2
      rw [hx.out, ← HX.out]
      go_loop [0, 6] (fun y j => ∃ m : Nat, m ≤ 8 ∧ j = .int .i64 m ∧ y = .int .u32 ((bits8 m x).toNat : Int)) (fun _ j => 8 - (intOf j).toNat)
      case atStart => exact ⟨0, by omega, rfl, rfl⟩
      case round =>
        obtain ⟨m, hm, rfl, rfl⟩ := hrel
        by_cases hlm : m < 8
        · obtain ⟨z, HZ⟩ := named (bits8 m x)
          rw [← HZ.out]
          cases hb : z.getLsbD 0
          · have ho : ((z.toNat : Int) % 2 == 1) = false := (odd_walk z).trans hb
            have he := hide (bit_even z hb)
            clear hb
            go_wp2
            go_round
            case rel => exact ⟨m + 1, by omega, by go_num, by rw [he.out, HZ.out]; rfl⟩
            case measure => simp [intOf]; omega
          · have ho : ((z.toNat : Int) % 2 == 1) = true := (odd_walk z).trans hb
            have he := hide (bit_odd z hb)
            clear hb
            go_wp2
            go_round
            case rel => exact ⟨m + 1, by omega, by go_num, by rw [he.out, HZ.out]; rfl⟩
            case measure => simp [intOf]; omega
        · obtain rfl : m = 8 := by omega
          go_wp2
          go_round
          case rel => exact ⟨k + 1, by omega, by go_num, by rw [HX.out, hsn.out, run_append]; rfl⟩
          case measure => simp [intOf]; omega
    · go_wp2
      go_ret
      exact ⟨ret_int (by rw [List.take_of_length_le (by simp; omega)]), rfl⟩
set_option maxHeartbeats 400000 in
theorem refsum_w (s : ByteArray) (w : World) (hs : s.size ≤ maxLen) :
    Calls Try.prog 47 #[.string s] w fun e w' => e = .returned (.int .u32 ((more 0#32 s.data.toList).toNat : Int)) ∧ w = w' := by
  go_enter Try.func47, Try.ntmps47
  go_wp2_with (go_at_call 76; refine (refrun_w 4294967295#32 _ _ hs).mono ?_; rintro e w' ⟨rfl, rfl⟩)
  go_ret
  exact ⟨ret_int (not_walk _), rfl⟩
end Go.Proofs.Ytdgonhmipecjpaa
