/- cmp.Compare at kinds, texts, ints; cmp.Or of two. -/
import Derived.Test.YtmnfmgoolimlmaaDoorVLong
namespace Go.Proofs.YtmnfmgoolimlmaaDoor
set_option linter.unusedSimpArgs false
set_option linter.unusedVariables false
open Go.RowKit
set_option maxRecDepth 100000 in
theorem nanK_w (a : Int) (w : World) :
    Calls Tryd.prog 71 #[.int .u8 a] w fun e w' => e = .returned (.bool false) ∧ w' = w := by
  go_enter Tryd.func71, Tryd.ntmps71
  go_wp2
  go_ret
  exact ⟨rfl, rfl⟩
set_option maxRecDepth 100000 in
theorem nanI_w (a : Int) (w : World) :
    Calls Tryd.prog 94 #[.int .i64 a] w fun e w' => e = .returned (.bool false) ∧ w' = w := by
  go_enter Tryd.func94, Tryd.ntmps94
  go_wp2
  go_ret
  exact ⟨rfl, rfl⟩
set_option maxRecDepth 100000 in
theorem nanS_w (a : ByteArray) (w : World) :
    Calls Tryd.prog 73 #[.string a] w fun e w' => e = .returned (.bool false) ∧ w' = w := by
  go_enter Tryd.func73, Tryd.ntmps73
  go_wp2
  go_ret
  exact ⟨rfl, rfl⟩
set_option maxRecDepth 100000 in
theorem cmpK_w (a b : Int) (w : World) :
    Calls Tryd.prog 54 #[.int .u8 a, .int .u8 b] w fun e w' => e = .returned (.int .i64 (cmpI a b)) ∧ w' = w := by
  have hn := nanK_w
  go_enter Tryd.func54, Tryd.ntmps54
  go_wp2_with fail
  refine (hn _ _).mono ?_
  rintro e w1 ⟨rfl, rfl⟩
  go_wp2_with fail
  refine (hn _ _).mono ?_
  rintro e w1 ⟨rfl, rfl⟩
  by_cases h : a < b
  · go_wp2_with fail
    go_ret
    exact ⟨by unfold cmpI; rw [if_pos h]; rfl, rfl⟩
  · by_cases h2 : b < a
    · go_wp2_with fail
      go_ret
      exact ⟨by unfold cmpI; rw [if_neg (by omega), if_pos h2]; rfl, rfl⟩
    · go_wp2_with fail
      go_ret
      exact ⟨by unfold cmpI; rw [if_neg (by omega), if_neg (by omega)]; rfl, rfl⟩
set_option maxRecDepth 100000 in
theorem cmpInt_w (a b : Int) (w : World) :
    Calls Tryd.prog 74 #[.int .i64 a, .int .i64 b] w fun e w' => e = .returned (.int .i64 (cmpI a b)) ∧ w' = w := by
  have hn := nanI_w
  go_enter Tryd.func74, Tryd.ntmps74
  go_wp2_with fail
  refine (hn _ _).mono ?_
  rintro e w1 ⟨rfl, rfl⟩
  go_wp2_with fail
  refine (hn _ _).mono ?_
  rintro e w1 ⟨rfl, rfl⟩
  by_cases h : a < b
  · go_wp2_with fail
    go_ret
    exact ⟨by unfold cmpI; rw [if_pos h]; rfl, rfl⟩
  · by_cases h2 : b < a
    · go_wp2_with fail
      go_ret
      exact ⟨by unfold cmpI; rw [if_neg (by omega), if_pos h2]; rfl, rfl⟩
    · go_wp2_with fail
      go_ret
      exact ⟨by unfold cmpI; rw [if_neg (by omega), if_neg (by omega)]; rfl, rfl⟩
/-- cmp.Compare at texts. -/
def cmpS (a b : ByteArray) : Int := if Op.bytesLess a.toList b.toList = true then -1 else if (a.toList == b.toList) = true then 0 else 1
set_option maxRecDepth 100000 in
theorem cmpS_w (a b : ByteArray) (w : World) :
    Calls Tryd.prog 56 #[.string a, .string b] w fun e w' => e = .returned (.int .i64 (cmpS a b)) ∧ w' = w := by
  have hn := nanS_w
  obtain ⟨R, HR⟩ := named (cmpS a b)
  rw [← HR.out]
  go_enter Tryd.func56, Tryd.ntmps56
  go_wp2_with fail
  refine (hn _ _).mono ?_
  rintro e w1 ⟨rfl, rfl⟩
  go_wp2_with fail
  refine (hn _ _).mono ?_
  rintro e w1 ⟨rfl, rfl⟩
  cases h1 : Op.bytesLess a.toList b.toList with
  | true =>
    go_wp2_with fail
    go_ret
    exact ⟨by rw [HR.out]; unfold cmpS; rw [h1]; rfl, rfl⟩
  | false =>
    cases h2 : (a.toList == b.toList) with
    | true =>
      go_wp2_with fail
      go_ret
      exact ⟨by rw [HR.out]; unfold cmpS; rw [h1, h2]; rfl, rfl⟩
    | false =>
      go_wp2_with fail
      go_ret
      exact ⟨by rw [HR.out]; unfold cmpS; rw [h1, h2]; rfl, rfl⟩
set_option maxRecDepth 100000 in
theorem or_w (b c : Nat) (x y : Int) (w : World) (hx : w.cell? ⟨b, 0, none⟩ = some (.int .i64 x)) (hy : w.cell? ⟨b, 1, none⟩ = some (.int .i64 y)) :
    Calls Tryd.prog 57 #[.slice (some ⟨b, 0, none⟩) 2 c] w fun e w' => e = .returned (.int .i64 (if x = 0 then y else x)) ∧ w' = w := by
  obtain ⟨R, HR⟩ := named (if x = 0 then y else x)
  rw [← HR.out]
  go_enter Tryd.func57, Tryd.ntmps57
  go_wp2_with (first | (at_builtin; fail))
  go_loopw [8] (fun i wr => ∃ j : Nat, j ≤ 2 ∧ i = .int .i64 j ∧ (1 ≤ j → x = 0) ∧ (2 ≤ j → y = 0) ∧ wr = w) (fun i _ => 2 - (intOf i).toNat)
  case atStart => exact ⟨0, by omega, rfl, fun h => absurd h (by omega), fun h => absurd h (by omega), rfl⟩
  case round =>
    obtain ⟨j, hj, rfl, h1, h2, rfl⟩ := hrel
    rcases (show j = 0 ∨ j = 1 ∨ j = 2 by omega) with rfl | rfl | rfl
    · by_cases h0 : x = 0
      · have hb : (x == 0) = true := by simp [h0]
        go_wp2_with (go_quiet (fail))
        go_roundw
        case rel => exact ⟨1, by omega, rfl, fun _ => h0, by first | trivial | (intro h; omega), by first | trivial | rfl⟩
        case measure => simp [intOf]
      · have hb : (x == 0) = false := by rw [beq_eq_false_iff_ne]; exact h0
        go_wp2_with (go_quiet (fail))
        go_ret
        exact ⟨by rw [HR.out, if_neg h0]; rfl, rfl⟩
    · have hx0 := h1 (by omega)
      by_cases h0 : y = 0
      · have hb : (y == 0) = true := by simp [h0]
        go_wp2_with (go_quiet (fail))
        go_roundw
        case rel => exact ⟨2, by omega, rfl, fun _ => hx0, fun _ => h0, by first | trivial | rfl⟩
        case measure => simp [intOf]
      · have hb : (y == 0) = false := by rw [beq_eq_false_iff_ne]; exact h0
        go_wp2_with (go_quiet (fail))
        go_ret
        exact ⟨by rw [HR.out, if_pos hx0]; rfl, rfl⟩
    · have hx0 := h1 (by omega)
      have hy0 := h2 (by omega)
      clear h1 h2
      go_wp2_with (first | (at_builtin; fail))
      go_ret
      exact ⟨by rw [HR.out, if_pos hx0, hy0]; rfl, rfl⟩
end Go.Proofs.YtmnfmgoolimlmaaDoor
