/- lictorlaw06.ValueNumbers. -/
import Derived.Test.YtmnfmgoolimlmaaDoorVLives
namespace Go.Proofs.YtmnfmgoolimlmaaDoor
set_option linter.unusedSimpArgs false
set_option linter.unusedVariables false
open Go.RowKit Sums
theorem sum_fits {a : Int} (h : I64 a) : sumN (some a) = a ∧ sumE (some a) = 0 := by
  have hf : fits a = true := by
    unfold fits
    exact decide_eq_true h
  simp [sumN, sumE, hf]
set_option maxRecDepth 100000 in
set_option maxHeartbeats 2000000 in
theorem valuenumbers_w (a b : Int) (w : World) (ha : -9223372036854775808 ≤ a ∧ a ≤ 9223372036854775807) (hb : -9223372036854775808 ≤ b ∧ b ≤ 9223372036854775807) (htab : Tb w) :
    Calls Tryd.prog 4 #[.int .i64 a, .int .i64 b] w fun e w' => e = .returned (.bool true) ∧ Below w.heap.size w w' := by
  have h0 := lives6_w w htab
  have h1 := fun W => vsum_plus a b W ha hb
  have h2 := fun W => vsum_plus b a W hb ha
  have h3 := fun W => vsum_times a b W ha hb
  have h4 := fun W => vsum_times b a W hb ha
  have h5 := fun W => vsum_times a 1 W ha ⟨by decide, by decide⟩
  have h6 := fun W => vsum_times a 0 W ha ⟨by decide, by decide⟩
  have h7 := fun W => vsum_minus a a W ha ha
  rw [Int.add_comm b a] at h2
  rw [Int.mul_comm b a] at h4
  rw [Int.mul_one, (sum_fits ha).1, (sum_fits ha).2] at h5
  rw [Int.mul_zero, show sumN (some 0) = 0 from by decide, show sumE (some 0) = 0 from by decide] at h6
  rw [Int.sub_self, show sumN (some 0) = 0 from by decide, show sumE (some 0) = 0 from by decide] at h7
  obtain ⟨n1, hn1⟩ := named (sumN (some (a + b)))
  obtain ⟨e1, he1⟩ := named (sumE (some (a + b)))
  obtain ⟨n3, hn3⟩ := named (sumN (some (a * b)))
  obtain ⟨e3, he3⟩ := named (sumE (some (a * b)))
  rw [← hn1.out, ← he1.out] at h1 h2
  rw [← hn3.out, ← he3.out] at h3 h4
  clear hn1 he1 hn3 he3 ha hb htab
  go_enter Tryd.func4, Tryd.ntmps4
  go_wp2_with fail
  refine h0.mono ?_
  rintro e w1 ⟨rfl, hb1⟩
  clear h0
  go_wp2_with fail
  refine (h1 _).mono ?_
  rintro e w2 ⟨rfl, rfl⟩
  go_wp2_with fail
  refine (h2 _).mono ?_
  rintro e w2 ⟨rfl, rfl⟩
  go_wp2_with fail
  refine (h3 _).mono ?_
  rintro e w2 ⟨rfl, rfl⟩
  go_wp2_with fail
  refine (h4 _).mono ?_
  rintro e w2 ⟨rfl, rfl⟩
  go_wp2_with fail
  refine (h5 _).mono ?_
  rintro e w2 ⟨rfl, rfl⟩
  go_wp2_with fail
  refine (h6 _).mono ?_
  rintro e w2 ⟨rfl, rfl⟩
  go_wp2_with fail
  refine (h7 _).mono ?_
  rintro e w2 ⟨rfl, rfl⟩
  clear h1 h2 h3 h4 h5 h6 h7
  go_wp2_with fail
  go_ret
  exact ⟨by simp, hb1⟩
end Go.Proofs.YtmnfmgoolimlmaaDoor
