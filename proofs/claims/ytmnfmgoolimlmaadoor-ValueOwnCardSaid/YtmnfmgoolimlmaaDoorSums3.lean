/- ValueSums: the product, and the law. -/
import Derived.Test.YtmnfmgoolimlmaaDoorSums2
namespace Go.Proofs.YtmnfmgoolimlmaaDoor
open Go.RowKit
open Sums
set_option maxHeartbeats 400000 in
theorem vsum_times (a b : Int) (w : World) (ha : I64 a) (hb : I64 b) :
    Calls Tryd.prog 14 #[.int .u8 42, .int .i64 a, .int .i64 b] w fun e w' => e = .returned (.tuple #[.int .i64 (sumN (some (a * b))), .int .i64 (sumE (some (a * b)))]) ∧ w = w' := by
  have ha' := hide ha
  have hb' := hide hb
  clear ha hb
  cases hf : fits (a * b)
  · have h1 : sumN (some (a * b)) = 0 := by simp [sumN, hf]
    have h2 : sumE (some (a * b)) = 11 := by simp [sumE, hf]
    have h3 : overB a b = true := by simp [overB, hf]
    rw [h1, h2]
    clear h1 h2 hf
    go_enter Tryd.func14, Tryd.ntmps14
    go_wp2_with (go_at_call 35; refine (over_w a b _ ha'.out hb'.out).mono ?_; rintro e w1 ⟨rfl, rfl⟩)
    go_ret2
    exact ⟨rfl, rfl⟩
  · have h1 : sumN (some (a * b)) = a * b := by simp [sumN, hf]
    have h2 : sumE (some (a * b)) = 0 := by simp [sumE, hf]
    have h3 : overB a b = false := by simp [overB, hf]
    have h4 : RowKit.wrap64 (a * b) = a * b := by
      simp only [fits, decide_eq_true_eq] at hf
      unfold RowKit.wrap64; omega
    have h4' := hide h4
    rw [h1, h2]
    clear h1 h2 hf h4
    go_enter Tryd.func14, Tryd.ntmps14
    go_wp2_with (go_at_call 35; refine (over_w a b _ ha'.out hb'.out).mono ?_; rintro e w1 ⟨rfl, rfl⟩)
    go_ret2
    exact ⟨ret_got (by first | rfl | exact h4'.out) rfl, rfl⟩
/-! What the reference holds against the product. -/
theorem wrap_cases (p : Int) : ∃ k : Int, RowKit.wrap64 p = p - k * 18446744073709551616 ∧ (fits p = false → k ≠ 0) ∧ (fits p = true → k = 0) ∧ I64 (RowKit.wrap64 p) := by
  refine ⟨(p + 9223372036854775808) / 18446744073709551616, ?_, ?_, ?_, ?_⟩
  · unfold RowKit.wrap64; omega
  · intro h; simp only [fits, decide_eq_false_iff_not] at h; omega
  · intro h; simp only [fits, decide_eq_true_eq] at h; omega
  · unfold RowKit.wrap64; omega
theorem tdiv_fits (n b : Int) (hn : I64 n) (h1 : b ≠ -1) (h0 : b ≠ 0) : I64 (n.tdiv b) := by
  have e : (n.tdiv b).natAbs = n.natAbs / b.natAbs := Int.natAbs_tdiv n b
  obtain ⟨h2, h3⟩ := hn
  by_cases hb : b = 1
  · subst hb
    rw [Int.tdiv_one]; exact ⟨h2, h3⟩
  · have hb2 : 2 ≤ b.natAbs := by omega
    have : n.natAbs / b.natAbs ≤ n.natAbs / 2 := Nat.div_le_div_left hb2 (by decide)
    constructor <;> omega
theorem rsum_bad (a b : Int) (hb : I64 b) (h0 : b ≠ 0) (h1 : b ≠ -1) (h : fits (a * b) = false) : (RowKit.wrap64 ((RowKit.wrap64 (a * b)).tdiv b) != a) = true := by
  obtain ⟨k, hk, hk0, _, hi⟩ := wrap_cases (a * b)
  have hk0 := hk0 h
  generalize hn : RowKit.wrap64 (a * b) = n at *
  have ht := tdiv_fits n b hi h1 h0
  have hw : RowKit.wrap64 (n.tdiv b) = n.tdiv b := by have := ht.1; have := ht.2; unfold RowKit.wrap64; omega
  rw [hw, bne_iff_ne]
  intro e
  have h2 := Int.mul_tdiv_add_tmod n b
  rw [e, Int.mul_comm b a] at h2
  have h3 : (n.tmod b).natAbs = n.natAbs % b.natAbs := Int.natAbs_tmod n b
  have h4 : n.natAbs % b.natAbs < b.natAbs := Nat.mod_lt _ (by omega)
  have hb1 := hb.1
  have hb2 := hb.2
  omega
theorem rsum_good (a b : Int) (ha : I64 a) (h0 : b ≠ 0) (h : fits (a * b) = true) : (RowKit.wrap64 ((RowKit.wrap64 (a * b)).tdiv b) != a) = false := by
  obtain ⟨k, hk, _, hk0, _⟩ := wrap_cases (a * b)
  have hk0 := hk0 h
  have : RowKit.wrap64 (a * b) = a * b := by rw [hk, hk0]; omega
  rw [this, Int.mul_tdiv_cancel _ h0]
  have hw : RowKit.wrap64 a = a := by have := ha.1; have := ha.2; unfold RowKit.wrap64; omega
  rw [hw]; simp
theorem ib {a b : Int} (h : a = b) : (a == b) = true := by simp [h]
theorem nb {a b : Int} (h : a ≠ b) : (a == b) = false := by simp [h]
theorem ibn {a b : Int} (h : a = b) : (a != b) = false := by simp [h]
theorem nbn {a b : Int} (h : a ≠ b) : (a != b) = true := by simp [h]
/-! ### The law -/
def exact (op : Nat) (a b : Int) : Option Int := if op = 43 then some (a + b) else if op = 45 then some (a - b) else if op = 42 then some (a * b) else none
theorem vsum_w (op : Nat) (a b : Int) (w : World) (ha : I64 a) (hb : I64 b) :
    Calls Tryd.prog 14 #[.int .u8 (op : Int), .int .i64 a, .int .i64 b] w fun e w' => e = .returned (.tuple #[.int .i64 (sumN (exact op a b)), .int .i64 (sumE (exact op a b))]) ∧ w = w' := by
  by_cases h1 : op = 43
  · subst h1; exact vsum_plus a b w ha hb
  by_cases h2 : op = 45
  · subst h2; exact vsum_minus a b w ha hb
  by_cases h3 : op = 42
  · subst h3; exact vsum_times a b w ha hb
  simp only [exact, h1, h2, h3, if_false]
  exact vsum_none op a b w h1 h2 h3
theorem vsum_67 (w : World) :
    Calls Tryd.prog 14 #[.int .u8 42, .int .i64 6, .int .i64 (-7)] w fun e w' => e = .returned (.tuple #[.int .i64 (-42), .int .i64 0]) ∧ w = w' := by
  have := vsum_times 6 (-7) w ⟨by decide, by decide⟩ ⟨by decide, by decide⟩
  rw [show sumN (some (6 * -7)) = -42 from by decide, show sumE (some (6 * -7)) = 0 from by decide] at this
  exact this
end Go.Proofs.YtmnfmgoolimlmaaDoor
