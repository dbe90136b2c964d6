/- ValueSums: products. -/
import Derived.Test.YtmnfmgoolimlmaaDoorSums
namespace Go.Proofs.YtmnfmgoolimlmaaDoor
open Go.RowKit
open Sums
/-! ### Products -/
theorem mag_cases (a : Int) : (a < 0 ∧ a = -(mag a : Int)) ∨ (0 ≤ a ∧ a = (mag a : Int)) := by unfold mag; omega
theorem mag_lt (a : Int) (h : I64 a) : mag a ≤ 9223372036854775808 := by unfold mag; have := h.1; have := h.2; omega
set_option maxHeartbeats 400000 in
theorem mag_w (a : Int) (w : World) (ha : I64 a) :
    Calls Tryd.prog 60 #[.int .i64 a] w fun e w' => e = .returned (.int .u64 (mag a : Int)) ∧ w = w' := by
  have hm := mag_cases a
  have hl := mag_lt a ha
  obtain ⟨a1, a2⟩ := ha
  rcases hm with ⟨h1, h2⟩ | ⟨h1, h2⟩
  · have h3 := hide h2
    clear h2
    go_enter Tryd.func60, Tryd.ntmps60
    go_wp2
    go_ret
    exact ⟨ret_int (by have := h3.out; rw [IntKind.wrap_u64, IntKind.wrap_u64]; omega), rfl⟩
  · have h3 := hide h2
    clear h2
    go_enter Tryd.func60, Tryd.ntmps60
    go_wp2
    go_ret
    exact ⟨ret_int (by have := h3.out; omega), rfl⟩
theorem mul64_w (x y : Nat) (w : World) (hx : x < 18446744073709551616) (hy : y < 18446744073709551616) :
    Calls Tryd.prog 61 #[.int .u64 (x : Int), .int .u64 (y : Int)] w fun e w' => ∃ hi lo : Nat, e = .returned (.tuple #[.int .u64 (hi : Int), .int .u64 (lo : Int)]) ∧ w = w' ∧ x * y = hi * 18446744073709551616 + lo ∧ lo < 18446744073709551616 := by
  refine (Tryd.bits_Mul64 x y hx hy w).mono ?_
  rintro e w' ⟨rfl, rfl⟩
  exact ⟨_, _, rfl, rfl, by omega, by omega⟩
def overB (a b : Int) : Bool := !fits (a * b)
theorem mul_same (a b : Int) (h : (a < 0 ∧ b < 0) ∨ (0 ≤ a ∧ 0 ≤ b)) : a * b = ((mag a * mag b : Nat) : Int) := by
  rw [Int.natCast_mul]
  rcases mag_cases a with ⟨x1, x2⟩ | ⟨x1, x2⟩ <;> rcases mag_cases b with ⟨y1, y2⟩ | ⟨y1, y2⟩
  · conv => lhs; rw [x2, y2, Int.neg_mul_neg]
  · omega
  · omega
  · conv => lhs; rw [x2, y2]
theorem mul_apart (a b : Int) (h : (a < 0 ∧ 0 ≤ b) ∨ (0 ≤ a ∧ b < 0)) : a * b = -((mag a * mag b : Nat) : Int) := by
  rw [Int.natCast_mul]
  rcases mag_cases a with ⟨x1, x2⟩ | ⟨x1, x2⟩ <;> rcases mag_cases b with ⟨y1, y2⟩ | ⟨y1, y2⟩
  · omega
  · conv => lhs; rw [x2, y2, Int.neg_mul]
  · conv => lhs; rw [x2, y2, Int.mul_neg]
  · omega
theorem over_num (p : Int) (most : Int) (hi lo : Nat) (hlo : lo < 18446744073709551616) (h : p = ((hi * 18446744073709551616 + lo : Nat) : Int) ∧ most = 9223372036854775807 ∨ p = -((hi * 18446744073709551616 + lo : Nat) : Int) ∧ most = 9223372036854775808) :
    (!fits p) = (decide (0 < (hi : Int)) || decide (most < (lo : Int))) := by
  rw [Bool.eq_iff_iff]
  simp only [fits, Bool.not_eq_true', decide_eq_false_iff_not, Bool.or_eq_true, decide_eq_true_eq]
  omega
theorem over_of (a b : Int) (hi lo : Nat) (h : mag a * mag b = hi * 18446744073709551616 + lo) (hlo : lo < 18446744073709551616) (most : Int) (hs : ((a < 0 ∧ b < 0) ∨ (0 ≤ a ∧ 0 ≤ b)) ∧ most = 9223372036854775807 ∨ ((a < 0 ∧ 0 ≤ b) ∨ (0 ≤ a ∧ b < 0)) ∧ most = 9223372036854775808) :
    overB a b = (decide (0 < (hi : Int)) || decide (most < (lo : Int))) := by
  rcases hs with ⟨hs, rfl⟩ | ⟨hs, rfl⟩
  · exact over_num _ _ hi lo hlo (.inl ⟨by rw [mul_same a b hs, h], rfl⟩)
  · exact over_num _ _ hi lo hlo (.inr ⟨by rw [mul_apart a b hs, h], rfl⟩)
set_option maxHeartbeats 400000 in
theorem over_w (a b : Int) (w : World) (ha : I64 a) (hb : I64 b) :
    Calls Tryd.prog 35 #[.int .i64 a, .int .i64 b] w fun e w' => e = .returned (.bool (overB a b)) ∧ w = w' := by
  have hma := mag_lt a ha
  have hmb := mag_lt b hb
  have ha' := hide ha
  have hb' := hide hb
  clear ha hb
  by_cases h1 : a < 0 <;> by_cases h2 : b < 0
  · have d1 := dt h1
    have d2 := dt h2
    have hovf := hide (fun (hi lo : Nat) (hp : mag a * mag b = hi * 18446744073709551616 + lo) (hlo : lo < 18446744073709551616) => over_of a b hi lo hp hlo 9223372036854775807 (by omega))
    clear h1 h2
    go_enter Tryd.func35, Tryd.ntmps35
    go_wp2_with fail
    refine (mag_w a _ ha'.out).mono ?_
    rintro e w1 ⟨rfl, rfl⟩
    go_wp2_with fail
    refine (mag_w b _ hb'.out).mono ?_
    rintro e w1 ⟨rfl, rfl⟩
    go_wp2_with fail
    refine (mul64_w _ _ _ (by omega) (by omega)).mono ?_
    rintro e w1 ⟨hi, lo, rfl, rfl, hp, hlo⟩
    have hov := hide (hovf.out hi lo hp hlo)
    clear hp hlo hovf
    rcases Nat.eq_zero_or_pos hi with rfl | hpos
    · go_wp2
      go_ret
      exact ⟨ret_bool (by rw [hov.out]; simp), rfl⟩
    · go_wp2
      go_ret
      exact ⟨ret_bool (by rw [hov.out]; simp; omega), rfl⟩
  · have d1 := dt h1
    have d2 := df h2
    have hovf := hide (fun (hi lo : Nat) (hp : mag a * mag b = hi * 18446744073709551616 + lo) (hlo : lo < 18446744073709551616) => over_of a b hi lo hp hlo 9223372036854775808 (by omega))
    clear h1 h2
    go_enter Tryd.func35, Tryd.ntmps35
    go_wp2_with fail
    refine (mag_w a _ ha'.out).mono ?_
    rintro e w1 ⟨rfl, rfl⟩
    go_wp2_with fail
    refine (mag_w b _ hb'.out).mono ?_
    rintro e w1 ⟨rfl, rfl⟩
    go_wp2_with fail
    refine (mul64_w _ _ _ (by omega) (by omega)).mono ?_
    rintro e w1 ⟨hi, lo, rfl, rfl, hp, hlo⟩
    have hov := hide (hovf.out hi lo hp hlo)
    clear hp hlo hovf
    rcases Nat.eq_zero_or_pos hi with rfl | hpos
    · go_wp2
      go_ret
      exact ⟨ret_bool (by rw [hov.out]; simp), rfl⟩
    · go_wp2
      go_ret
      exact ⟨ret_bool (by rw [hov.out]; simp; omega), rfl⟩
  · have d1 := df h1
    have d2 := dt h2
    have hovf := hide (fun (hi lo : Nat) (hp : mag a * mag b = hi * 18446744073709551616 + lo) (hlo : lo < 18446744073709551616) => over_of a b hi lo hp hlo 9223372036854775808 (by omega))
    clear h1 h2
    go_enter Tryd.func35, Tryd.ntmps35
    go_wp2_with fail
    refine (mag_w a _ ha'.out).mono ?_
    rintro e w1 ⟨rfl, rfl⟩
    go_wp2_with fail
    refine (mag_w b _ hb'.out).mono ?_
    rintro e w1 ⟨rfl, rfl⟩
    go_wp2_with fail
    refine (mul64_w _ _ _ (by omega) (by omega)).mono ?_
    rintro e w1 ⟨hi, lo, rfl, rfl, hp, hlo⟩
    have hov := hide (hovf.out hi lo hp hlo)
    clear hp hlo hovf
    rcases Nat.eq_zero_or_pos hi with rfl | hpos
    · go_wp2
      go_ret
      exact ⟨ret_bool (by rw [hov.out]; simp), rfl⟩
    · go_wp2
      go_ret
      exact ⟨ret_bool (by rw [hov.out]; simp; omega), rfl⟩
  · have d1 := df h1
    have d2 := df h2
    have hovf := hide (fun (hi lo : Nat) (hp : mag a * mag b = hi * 18446744073709551616 + lo) (hlo : lo < 18446744073709551616) => over_of a b hi lo hp hlo 9223372036854775807 (by omega))
    clear h1 h2
    go_enter Tryd.func35, Tryd.ntmps35
    go_wp2_with fail
    refine (mag_w a _ ha'.out).mono ?_
    rintro e w1 ⟨rfl, rfl⟩
    go_wp2_with fail
    refine (mag_w b _ hb'.out).mono ?_
    rintro e w1 ⟨rfl, rfl⟩
    go_wp2_with fail
    refine (mul64_w _ _ _ (by omega) (by omega)).mono ?_
    rintro e w1 ⟨hi, lo, rfl, rfl, hp, hlo⟩
    have hov := hide (hovf.out hi lo hp hlo)
    clear hp hlo hovf
    rcases Nat.eq_zero_or_pos hi with rfl | hpos
    · go_wp2
      go_ret
      exact ⟨ret_bool (by rw [hov.out]; simp), rfl⟩
    · go_wp2
      go_ret
      exact ⟨ret_bool (by rw [hov.out]; simp; omega), rfl⟩
end Go.Proofs.YtmnfmgoolimlmaaDoor
