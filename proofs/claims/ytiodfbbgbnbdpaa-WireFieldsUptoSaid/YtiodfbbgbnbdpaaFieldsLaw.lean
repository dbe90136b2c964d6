/- The law of WireFields in plain Lean. -/
import Derived.Test.YtiodfbbgbnbdpaaRefWAll
namespace Go.Proofs.Ytiodfbbgbnbdpaa
set_option linter.unusedSimpArgs false
set_option linter.unusedVariables false
open Go.RowKit
open Crc
def curly : ByteArray := ⟨#[123, 125]⟩
theorem writeA_zero {a : Ask} (hts : a.ts.length = 7) (hn : a.n < 18446744073709551616) (hv : a.v < 18446744073709551616) : (writeA a).2 = 0 ↔ (encW a).2 = false ∧ a = bareA a := by
  rw [writeA_val hts hn hv]
  by_cases h : (encW a).2 = false ∧ a = bareA a
  · rw [if_pos h]; exact ⟨fun _ => h, fun _ => rfl⟩
  · rw [if_neg h]; exact ⟨fun c => absurd c (by decide), fun c => absurd c h⟩
set_option maxHeartbeats 1000000 in
theorem fields_law {k ck : UInt8} {n v m : Nat} {i x u w s1 s2 s3 s4 s5 s6 s7 : ByteArray} (hn : n < 18446744073709551616) (hv : v < 18446744073709551616) (hm : m < 18446744073709551616) (h0 : m ≠ 0)
    (h : (writeA ⟨k, n, ⟨ck, i, x, u, w⟩, v, [s1, s2, s3, s4, s5, s6, s7]⟩).2 = 0) :
    ((writeA ⟨k, m, ⟨ck, i, x, u, w⟩, v, [s1, s2, s3, s4, s5, s6, s7]⟩).2 = 0 ↔ k = 2 ∨ k = 3 ∨ k = 4) ∧
    ((writeA ⟨k, n, ⟨ck, i, x, u, w⟩, m, [s1, s2, s3, s4, s5, s6, s7]⟩).2 = 0 ↔ k = 6) ∧
    ((writeA ⟨k, n, ⟨ck, i, x, u, w⟩, v, [s1, s2, s3, s4, s5, s6, curly]⟩).2 = 0 ↔ k = 5 ∨ k = 6) := by
  rw [writeA_zero rfl hn hv] at h
  rw [writeA_zero rfl hm hv, writeA_zero rfl hn hm, writeA_zero rfl hn hv]
  have hc : ¬ curly = e0 := by decide
  have hz : curly.size = 2 := rfl
  obtain ⟨h1, h2⟩ := h
  unfold encW bareA at *
  simp only at h1 h2 ⊢
  by_cases c1 : k = 1 ∨ k = 7 ∨ k = 8
  · rcases c1 with rfl | rfl | rfl <;> (simp [askOf, chg0, List.replicate] at h2 ⊢; simp [h0, hc, h2])
  rw [if_neg c1] at h1 h2
  simp only [if_neg c1]
  by_cases c2 : k = 2
  · subst c2
    simp [List.replicate] at h1 h2 ⊢
    simp [h0, hc, h1, h2]
  rw [if_neg c2] at h1 h2
  simp only [if_neg c2]
  by_cases c3 : k = 3 ∨ k = 4
  · rcases c3 with rfl | rfl <;> (simp [chg0, List.replicate] at h2 ⊢; simp [h0, hc, h2])
  rw [if_neg c3] at h1 h2
  simp only [if_neg c3]
  by_cases c5 : k = 5
  · subst c5
    simp [chg0, longs, hz] at h1 h2 ⊢
    simp [h0, hc, h1, h2]
  rw [if_neg c5] at h1 h2
  simp only [if_neg c5]
  by_cases c6 : k = 6
  · subst c6
    simp [chg0, longs, hz] at h1 h2 ⊢
    simp [h0, hc, h1, h2]
  rw [if_neg c6] at h1
  cases h1
end Go.Proofs.Ytiodfbbgbnbdpaa
