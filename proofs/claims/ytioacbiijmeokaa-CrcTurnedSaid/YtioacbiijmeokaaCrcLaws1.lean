/- The walks of the statements on sums: CrcSums, CrcMore, CrcJoined, CrcCut. -/
import Derived.Test.YtioacbiijmeokaaCrcWalks
import Derived.Deep.QuietTactic
import Derived.BigQuiet
namespace Go.Proofs.Ytioacbiijmeokaa
open Go.RowKit
open Crc
set_option maxHeartbeats 400000 in
theorem refrun_w (c : BitVec 32) (s : ByteArray) (w : World) (hs : s.size ≤ maxLen) :
    Calls Try.prog 35 #[.int .u32 (c.toNat : Int), .string s] w fun e w' => e = .returned (.int .u32 ((run c s.data.toList).toNat : Int)) ∧ w = w' := by
  unfold maxLen at hs
  go_enter Try.func35, Try.ntmps35
  go_wp2
  go_loop [0, 5] (fun x i => ∃ k : Nat, k ≤ s.size ∧ i = .int .i64 k ∧ x = .int .u32 ((run c (s.data.toList.take k)).toNat : Int)) (fun _ i => s.size - (intOf i).toNat)
  case atStart => exact ⟨0, by omega, rfl, rfl⟩
  case round =>
    obtain ⟨k, hk, rfl, rfl⟩ := hrel
    by_cases hlt : k < s.size
    · have hx : Hid _ := eat_walk (run c (s.data.toList.take k)) s[k]
      have hsn : Hid _ := take_snoc s k hlt
      obtain ⟨x, HX⟩ := named (run c (s.data.toList.take k) ^^^ byte32 s[k])
      go_wp2
      rw [hx.out, ← HX.out]
      go_loop [0, 6] (fun y j => ∃ m : Nat, m ≤ 8 ∧ j = .int .i64 m ∧ y = .int .u32 ((bits8 m x).toNat : Int)) (fun _ j => 8 - (intOf j).toNat)
      case atStart => exact ⟨0, by omega, rfl, rfl⟩
      case round =>
        obtain ⟨m, hm, rfl, rfl⟩ := hrel
        by_cases hlm : m < 8
        · obtain ⟨z, HZ⟩ := named (bits8 m x)
          rw [← HZ.out]
          cases hb : z.getLsbD 0
          · have ho : ((z.toNat : Int) % 2 == 1) = false := (odd_walk z).trans hb
            have he := hide (bit_even z hb)
            clear hb
            go_wp2
            go_round
            case rel => exact ⟨m + 1, by omega, by go_num, by rw [he.out, HZ.out]; rfl⟩
            case measure => simp [intOf]; omega
          · have ho : ((z.toNat : Int) % 2 == 1) = true := (odd_walk z).trans hb
            have he := hide (bit_odd z hb)
            clear hb
            go_wp2
            go_round
            case rel => exact ⟨m + 1, by omega, by go_num, by rw [he.out, HZ.out]; rfl⟩
            case measure => simp [intOf]; omega
        · obtain rfl : m = 8 := by omega
          go_wp2
          go_round
          case rel => exact ⟨k + 1, by omega, by go_num, by rw [HX.out, hsn.out, run_append]; rfl⟩
          case measure => simp [intOf]; omega
    · go_wp2
      go_ret
      exact ⟨ret_int (by rw [List.take_of_length_le (by simp; omega)]), rfl⟩
set_option maxHeartbeats 400000 in
theorem refmore_w (c : BitVec 32) (s : ByteArray) (w : World) (hs : s.size ≤ maxLen) :
    Calls Try.prog 26 #[.int .u32 (c.toNat : Int), .string s] w fun e w' => e = .returned (.int .u32 ((more c s.data.toList).toNat : Int)) ∧ w = w' := by
  have h1 := hide (not_walk c)
  go_enter Try.func26, Try.ntmps26
  go_wp2_with (go_at_call 35; rw [h1.out]; refine (refrun_w _ _ _ hs).mono ?_; rintro e w' ⟨rfl, rfl⟩)
  go_ret
  exact ⟨ret_int (not_walk _), rfl⟩
set_option maxHeartbeats 400000 in
theorem refsum_w (s : ByteArray) (w : World) (hs : s.size ≤ maxLen) :
    Calls Try.prog 29 #[.string s] w fun e w' => e = .returned (.int .u32 ((more 0#32 s.data.toList).toNat : Int)) ∧ w = w' := by
  go_enter Try.func29, Try.ntmps29
  go_wp2_with (go_at_call 35; refine (refrun_w 4294967295#32 _ _ hs).mono ?_; rintro e w' ⟨rfl, rfl⟩)
  go_ret
  exact ⟨ret_int (not_walk _), rfl⟩
def nine : List UInt8 := [49, 50, 51, 52, 53, 54, 55, 56, 57]
theorem more_nine : (more 0#32 nine).toNat = 3421780262 := by decide +kernel
set_option maxHeartbeats 400000 in
theorem sums_w (w : World) :
    Calls Try.prog 27 #[] w fun e w' => e = .returned (.bool true) ∧ w = w' := by
  go_enter Try.func27, Try.ntmps27
  go_wp2_with (go_at_call 28; refine (sum_w (str nine) _ (by rw [str_size]; decide)).mono ?_; rintro e w' ⟨rfl, rfl⟩)
  go_ret
  exact ⟨ret_bool (by rw [str_data, more_nine]; rfl), rfl⟩
set_option maxHeartbeats 400000 in
theorem crcsums_w (s : ByteArray) (w : World) (hs0 : s.size ≤ 140737488351232) :
    Calls Try.prog 8 #[.string s] w fun e w' => e = .returned (.bool true) ∧ Below w.heap.size w w' := by
  have hs : s.size ≤ maxLen := by unfold maxLen; omega
  go_enter Try.func8, Try.ntmps8
  go_wp2_with (first
    | (go_at_call 27; refine (sums_w _).mono ?_; rintro e w1 ⟨rfl, rfl⟩)
    | (go_at_call 28; refine (sum_w _ _ hs).mono ?_; rintro e w1 ⟨rfl, rfl⟩)
    | (go_at_call 29; refine (refsum_w _ _ hs).mono ?_; rintro e w1 ⟨rfl, rfl⟩))
  go_ret
  exact ⟨rfl, Below.refl _ _⟩
set_option maxHeartbeats 400000 in
theorem crcmore_w (n : Nat) (s : ByteArray) (w : World) (hn : n < 4294967296) (hs0 : s.size ≤ 140737488351232) :
    Calls Try.prog 7 #[.int .u32 (n : Int), .string s] w fun e w' => e = .returned (.bool true) ∧ Below w.heap.size w w' := by
  obtain ⟨c, rfl⟩ : ∃ c : BitVec 32, n = c.toNat := ⟨BitVec.ofNat 32 n, by simp; omega⟩
  have h9 := hide more_nine
  have hs : s.size ≤ maxLen := by unfold maxLen; omega
  go_enter Try.func7, Try.ntmps7
  go_wp2_with fail
  refine (more_w 0#32 (str nine) _ (by rw [str_size]; decide)).mono ?_
  rintro e w1 ⟨rfl, rfl⟩
  rw [str_data, h9.out]
  go_wp2_with (first
    | (go_at_call 25; refine (more_w _ _ _ hs).mono ?_; rintro e w1 ⟨rfl, rfl⟩)
    | (go_at_call 26; refine (refmore_w _ _ _ hs).mono ?_; rintro e w1 ⟨rfl, rfl⟩))
  go_ret
  exact ⟨rfl, Below.refl _ _⟩
set_option maxHeartbeats 400000 in
theorem crccut_w (s : ByteArray) (at_ : Int) (w : World) (hs0 : s.size ≤ 140737488351232) (ha : -9223372036854775808 ≤ at_ ∧ at_ ≤ 9223372036854775807) :
    Calls Try.prog 10 #[.string s, .int .i64 at_] w fun e w' => e = .returned (.bool true) ∧ Below w.heap.size w w' := by
  have hs : s.size ≤ maxLen := by unfold maxLen; omega
  have hs' := hs
  unfold maxLen at hs'
  obtain ⟨h1, h2⟩ := ha
  by_cases hin : 0 ≤ at_ ∧ at_ ≤ s.size
  · obtain ⟨h3, h4⟩ := hin
    obtain ⟨k, rfl⟩ := Int.eq_ofNat_of_zero_le h3
    go_enter Try.func10, Try.ntmps10
    go_wp2_with fail
    go_quiet ((first
      | (go_at_call 27; exact quiet_left (sums_w _))
      | (go_at_call 28; exact quiet_left (sum_w _ _ (by first | exact hs | exact extract_le hs)))
      | (go_at_call 25; exact quiet_left (more_w _ _ _ (by first | exact hs | exact extract_le hs)))))
    go_wp2
    go_ret
    exact ⟨ret_bool (by rw [more_cut]; simp), below_drewN (Below.refl _ _) _⟩
  · go_enter Try.func10, Try.ntmps10
    go_wp2_with (go_at_call 27; refine (sums_w _).mono ?_; rintro e w1 ⟨rfl, rfl⟩)
    all_goals go_ret
    all_goals exact ⟨rfl, Below.refl _ _⟩
theorem sum_app_w (a b : ByteArray) (w : World) (hs : a.size + b.size ≤ 9223372036854775807) :
    Calls Try.prog 28 #[.string (a ++ b)] w fun e w' => e = .returned (.int .u32 ((more (more 0#32 a.data.toList) b.data.toList).toNat : Int)) ∧ w = w' := by
  have := sum_w (a ++ b) w (by unfold maxLen; simp; omega)
  rw [show (a ++ b).data.toList = a.data.toList ++ b.data.toList from by simp, more_append] at this
  exact this
theorem more_nil_w (c : BitVec 32) (w : World) :
    Calls Try.prog 25 #[.int .u32 (c.toNat : Int), .string ⟨#[]⟩] w fun e w' => e = .returned (.int .u32 (c.toNat : Int)) ∧ w = w' := by
  have := more_w c ⟨#[]⟩ w (by decide)
  rw [show more c (ByteArray.mk #[]).data.toList = c from by simp [more, run, inv]] at this
  exact this
set_option maxHeartbeats 400000 in
theorem crcjoined_w (a b : ByteArray) (w : World) (ha : a.size ≤ 140737488351232) (hb : b.size ≤ 140737488351232) :
    Calls Try.prog 9 #[.string a, .string b] w fun e w' => e = .returned (.bool true) ∧ Below w.heap.size w w' := by
  have ha' : a.size ≤ maxLen := by unfold maxLen; omega
  have hb' : b.size ≤ maxLen := by unfold maxLen; omega
  go_enter Try.func9, Try.ntmps9
  go_wp2_with fail
  refine (sums_w _).mono ?_
  rintro e w1 ⟨rfl, rfl⟩
  go_wp2_with fail
  refine (sum_app_w a b _ (by omega)).mono ?_
  rintro e w1 ⟨rfl, rfl⟩
  go_wp2_with fail
  refine (sum_w a _ ha').mono ?_
  rintro e w1 ⟨rfl, rfl⟩
  go_wp2_with fail
  refine (more_w _ b _ hb').mono ?_
  rintro e w1 ⟨rfl, rfl⟩
  go_wp2_with fail
  refine (sum_w a _ ha').mono ?_
  rintro e w1 ⟨rfl, rfl⟩
  go_wp2_with fail
  refine (more_nil_w _ _).mono ?_
  rintro e w1 ⟨rfl, rfl⟩
  go_wp2_with fail
  refine (sum_w a _ ha').mono ?_
  rintro e w1 ⟨rfl, rfl⟩
  go_wp2
  go_ret
  exact ⟨rfl, Below.refl _ _⟩
end Go.Proofs.Ytioacbiijmeokaa
