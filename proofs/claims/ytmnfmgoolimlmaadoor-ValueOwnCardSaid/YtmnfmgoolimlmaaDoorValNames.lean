/- value.letter, value.digit. -/
import Derived.Test.YtmnfmgoolimlmaaDoorRefNames
namespace Go.Proofs.YtmnfmgoolimlmaaDoor
set_option linter.unusedSimpArgs false
set_option linter.unusedVariables false
open Go.RowKit
set_option maxRecDepth 100000 in
theorem digit_w (b : UInt8) (w : World) :
    Calls Tryd.prog 25 #[.int .u8 (b.toNat : Int)] w fun e w' => e = .returned (.bool (digB b)) ∧ w' = w := by
  obtain ⟨d, hd⟩ := named (digB b)
  have hd2 : d = decide (48 ≤ b.toNat ∧ b.toNat ≤ 57) := hd.out
  rw [← hd.out]
  clear hd
  obtain ⟨n, hn⟩ := named b.toNat
  rw [← hn.out] at hd2 ⊢
  have HD := hide hd2
  clear hd2
  go_enter Tryd.func25, Tryd.ntmps25
  by_cases h1 : (48 : Int) ≤ (n : Int)
  · by_cases h2 : (n : Int) ≤ 57
    · go_wp2
      go_ret
      refine ⟨?_, rfl⟩
      rw [HD.out, decide_eq_true (by omega)]
      rfl
    · go_wp2
      go_ret
      refine ⟨?_, rfl⟩
      rw [HD.out, decide_eq_false (by omega)]
      rfl
  · go_wp2
    go_ret
    refine ⟨?_, rfl⟩
    rw [HD.out, decide_eq_false (by omega)]
    rfl
set_option maxRecDepth 100000 in
theorem or_fin : ∀ n : Fin 256, bits .or .u8 (n.val : Int) 32 = ((UInt8.ofNat n.val ||| 32).toNat : Int) := by decide
theorem or_eq (b : UInt8) : bits .or .u8 (b.toNat : Int) 32 = ((b ||| 32).toNat : Int) := by
  have h := or_fin ⟨b.toNat, b.toNat_lt⟩
  have e : UInt8.ofNat b.toNat = b := by simp
  simp only [e] at h
  exact h
theorem eq95 (n : Nat) : ((n : Int) == 95) = (false || decide (n = 95)) := by
  rw [Bool.eq_iff_iff]
  simp
  omega
set_option maxRecDepth 100000 in
theorem letter_w (b : UInt8) (w : World) :
    Calls Tryd.prog 29 #[.int .u8 (b.toNat : Int)] w fun e w' => e = .returned (.bool (letB b)) ∧ w' = w := by
  rw [← goLet_eq]
  obtain ⟨d, hd⟩ := named (goLet b)
  have hd2 : d = (decide (97 ≤ (b ||| 32).toNat ∧ (b ||| 32).toNat ≤ 122) || decide (b.toNat = 95)) := hd.out
  rw [← hd.out]
  clear hd
  have ho := or_eq b
  obtain ⟨q, hq⟩ := named (bits .or .u8 (b.toNat : Int) 32)
  obtain ⟨c, hc⟩ := named (b ||| 32).toNat
  rw [← hq.out, ← hc.out] at ho
  rw [← hc.out] at hd2
  have HQ := hide (hq.out.symm.trans ho)
  have hqb : bits .or .u8 (b.toNat : Int) 32 = (c : Int) := by rw [← hq.out]; exact ho
  clear hq hc ho HQ q
  obtain ⟨n, hn⟩ := named b.toNat
  rw [← hn.out] at hd2 hqb ⊢
  have HD := hide hd2
  clear hd2
  go_enter Tryd.func29, Tryd.ntmps29
  by_cases h1 : (97 : Int) ≤ (c : Int)
  · have h1b : (97 : Int) ≤ bits .or .u8 (n : Int) 32 := by rw [hqb]; exact h1
    by_cases h2 : (c : Int) ≤ 122
    · have h2b : bits .or .u8 (n : Int) 32 ≤ 122 := by rw [hqb]; exact h2
      go_wp2
      go_ret
      refine ⟨?_, rfl⟩
      rw [HD.out, decide_eq_true (show 97 ≤ c ∧ c ≤ 122 by omega)]
      rfl
    · have h2b : ¬ bits .or .u8 (n : Int) 32 ≤ 122 := by rw [hqb]; exact h2
      go_wp2
      go_ret
      refine ⟨?_, rfl⟩
      rw [HD.out, decide_eq_false (show ¬ (97 ≤ c ∧ c ≤ 122) by omega)]
      exact congrArg (fun x => Ending.returned (.bool x)) (eq95 n)
  · have h1b : ¬ (97 : Int) ≤ bits .or .u8 (n : Int) 32 := by rw [hqb]; exact h1
    go_wp2
    go_ret
    refine ⟨?_, rfl⟩
    rw [HD.out, decide_eq_false (show ¬ (97 ≤ c ∧ c ≤ 122) by omega)]
    exact congrArg (fun x => Ending.returned (.bool x)) (eq95 n)
/-- What spoils a name. -/
def badB (b : UInt8) : Bool := !letB b && !digB b
set_option maxRecDepth 100000 in
theorem bad_w (b : UInt8) (w : World) :
    Calls Tryd.prog 28 #[.int .u8 (b.toNat : Int)] w fun e w' => e = .returned (.bool (badB b)) ∧ w' = w := by
  have h1 := letter_w b w
  have h2 := digit_w b w
  have hb : badB b = (!letB b && !digB b) := rfl
  obtain ⟨d, hd⟩ := named (badB b)
  obtain ⟨x, hx⟩ := named (letB b)
  obtain ⟨y, hy⟩ := named (digB b)
  rw [← hd.out, ← hx.out, ← hy.out] at hb
  rw [← hx.out] at h1
  rw [← hy.out] at h2
  rw [← hd.out]
  have HB := hide hb
  clear hb hd hx hy
  go_enter Tryd.func28, Tryd.ntmps28
  go_wp2_with fail
  refine h1.mono ?_
  rintro e w1 ⟨rfl, rfl⟩
  cases x with
  | true =>
    go_wp2_with fail
    go_ret
    refine ⟨?_, rfl⟩
    rw [HB.out]
    rfl
  | false =>
    go_wp2_with fail
    refine h2.mono ?_
    rintro e w1 ⟨rfl, rfl⟩
    go_wp2_with fail
    go_ret
    refine ⟨?_, rfl⟩
    rw [HB.out]
    rfl
end Go.Proofs.YtmnfmgoolimlmaaDoor
