/- ValueSums: sums, differences and products that fit, or are told to be too much. -/
import Derived.Test.YtmnfmgoolimlmaaDoorBase
import Derived.Test.YtmnfmgoolimlmaaDoorShelf
namespace Go.Proofs.YtmnfmgoolimlmaaDoor
open Go.RowKit
namespace Sums
def fits (n : Int) : Bool := decide (-9223372036854775808 ≤ n ∧ n ≤ 9223372036854775807)
def sumN (ex : Option Int) : Int := match ex with | none => 0 | some n => if fits n then n else 0
def sumE (ex : Option Int) : Int := match ex with | none => 1 | some n => if fits n then 0 else 11
def mag (a : Int) : Nat := a.natAbs
end Sums
open Sums
abbrev I64 (a : Int) : Prop := -9223372036854775808 ≤ a ∧ a ≤ 9223372036854775807
theorem ret_got {k : IntKind} {a b : Int} {c d : Int} (h : a = b) (h' : c = d) : Ending.returned (.tuple #[.int k a, .int .i64 c]) = .returned (.tuple #[.int k b, .int .i64 d]) := by rw [h, h']
theorem dt {p : Prop} [Decidable p] (h : p) : decide p = true := decide_eq_true h
theorem df {p : Prop} [Decidable p] (h : ¬ p) : decide p = false := decide_eq_false h
set_option maxHeartbeats 800000 in
theorem vsum_plus (a b : Int) (w : World) (ha : I64 a) (hb : I64 b) :
    Calls Tryd.prog 14 #[.int .u8 43, .int .i64 a, .int .i64 b] w fun e w' => e = .returned (.tuple #[.int .i64 (sumN (some (a + b))), .int .i64 (sumE (some (a + b)))]) ∧ w = w' := by
  obtain ⟨a1, a2⟩ := ha
  obtain ⟨b1, b2⟩ := hb
  by_cases hf : fits (a + b) = true
  · have h1 : sumN (some (a + b)) = a + b := by simp [sumN, hf]
    have h2 : sumE (some (a + b)) = 0 := by simp [sumE, hf]
    rw [h1, h2]
    simp only [fits, decide_eq_true_eq] at hf
    obtain ⟨h3, h4⟩ := hf
    clear h1 h2
    rcases Int.lt_trichotomy b 0 with hb | rfl | hb
    all_goals
      go_enter Tryd.func14, Tryd.ntmps14
      go_wp2
      go_ret2
      exact ⟨ret_got (by first | rfl | omega) rfl, rfl⟩
  · have h1 : sumN (some (a + b)) = 0 := by simp [sumN, hf]
    have h2 : sumE (some (a + b)) = 11 := by simp [sumE, hf]
    rw [h1, h2]
    simp only [fits, decide_eq_true_eq] at hf
    have hf' : a + b < -9223372036854775808 ∨ 9223372036854775807 < a + b := by omega
    clear h1 h2 hf
    rcases hf' with hf | hf
    · have hs : b < 0 := by omega
      go_enter Tryd.func14, Tryd.ntmps14
      go_wp2
      go_ret2
      exact ⟨rfl, rfl⟩
    · have hs : 0 < b := by omega
      go_enter Tryd.func14, Tryd.ntmps14
      go_wp2
      go_ret2
      exact ⟨rfl, rfl⟩
set_option maxHeartbeats 800000 in
theorem vsum_minus (a b : Int) (w : World) (ha : I64 a) (hb : I64 b) :
    Calls Tryd.prog 14 #[.int .u8 45, .int .i64 a, .int .i64 b] w fun e w' => e = .returned (.tuple #[.int .i64 (sumN (some (a - b))), .int .i64 (sumE (some (a - b)))]) ∧ w = w' := by
  obtain ⟨a1, a2⟩ := ha
  obtain ⟨b1, b2⟩ := hb
  by_cases hf : fits (a - b) = true
  · have h1 : sumN (some (a - b)) = a - b := by simp [sumN, hf]
    have h2 : sumE (some (a - b)) = 0 := by simp [sumE, hf]
    rw [h1, h2]
    simp only [fits, decide_eq_true_eq] at hf
    obtain ⟨h3, h4⟩ := hf
    clear h1 h2
    rcases Int.lt_trichotomy b 0 with hb | rfl | hb
    all_goals
      go_enter Tryd.func14, Tryd.ntmps14
      go_wp2
      go_ret2
      exact ⟨ret_got (by first | rfl | omega) rfl, rfl⟩
  · have h1 : sumN (some (a - b)) = 0 := by simp [sumN, hf]
    have h2 : sumE (some (a - b)) = 11 := by simp [sumE, hf]
    rw [h1, h2]
    simp only [fits, decide_eq_true_eq] at hf
    have hf' : a - b < -9223372036854775808 ∨ 9223372036854775807 < a - b := by omega
    clear h1 h2 hf
    rcases hf' with hf | hf
    · have hs : 0 < b := by omega
      go_enter Tryd.func14, Tryd.ntmps14
      go_wp2
      go_ret2
      exact ⟨rfl, rfl⟩
    · have hs : b < 0 := by omega
      go_enter Tryd.func14, Tryd.ntmps14
      go_wp2
      go_ret2
      exact ⟨rfl, rfl⟩
set_option maxHeartbeats 400000 in
theorem vsum_none (op : Nat) (a b : Int) (w : World) (h1 : op ≠ 43) (h2 : op ≠ 45) (h3 : op ≠ 42) :
    Calls Tryd.prog 14 #[.int .u8 (op : Int), .int .i64 a, .int .i64 b] w fun e w' => e = .returned (.tuple #[.int .i64 (sumN none), .int .i64 (sumE none)]) ∧ w = w' := by
  have e1 : ((op : Int) == 43) = false := by simp; omega
  have e2 : ((op : Int) == 45) = false := by simp; omega
  have e3 : ((op : Int) == 42) = false := by simp; omega
  clear h1 h2 h3
  go_enter Tryd.func14, Tryd.ntmps14
  go_wp2
  go_ret2
  exact ⟨rfl, rfl⟩
end Go.Proofs.YtmnfmgoolimlmaaDoor
