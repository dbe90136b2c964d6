/- Values that are numbers: lictorlaw06.long, cmp.Compare, value.Compare at them. -/
import Derived.Test.YtmnfmgoolimlmaaDoorVal0
namespace Go.Proofs.YtmnfmgoolimlmaaDoor
set_option linter.unusedSimpArgs false
set_option linter.unusedVariables false
open Go.RowKit
set_option maxRecDepth 100000 in
theorem long_w (n : Int) (w : World) :
    Calls Tryd.prog 33 #[.int .i64 n] w fun e w' => e = .returned (.agg (longRow n).toArray) ∧ Below w.heap.size w w' := by
  go_enter Tryd.func33, Tryd.ntmps33
  go_wp2_with fail
  exact bodyPost_ret (vret1 rfl _ rfl (Blk.new w (longRow n) _) rfl) rfl ⟨rfl, below_alloc w _⟩
/-- cmp.Compare at numbers. -/
def cmpI (a b : Int) : Int := if a < b then -1 else if b < a then 1 else 0
set_option maxRecDepth 100000 in
theorem nan64_w (a : Int) (w : World) :
    Calls Tryd.prog 72 #[.int .i64 a] w fun e w' => e = .returned (.bool false) ∧ w' = w := by
  go_enter Tryd.func72, Tryd.ntmps72
  go_wp2
  go_ret
  exact ⟨rfl, rfl⟩
set_option maxRecDepth 100000 in
theorem cmp64_w (a b : Int) (w : World) :
    Calls Tryd.prog 55 #[.int .i64 a, .int .i64 b] w fun e w' => e = .returned (.int .i64 (cmpI a b)) ∧ w' = w := by
  have hn := nan64_w
  go_enter Tryd.func55, Tryd.ntmps55
  go_wp2_with fail
  refine (hn _ _).mono ?_
  rintro e w1 ⟨rfl, rfl⟩
  go_wp2_with fail
  refine (hn _ _).mono ?_
  rintro e w1 ⟨rfl, rfl⟩
  by_cases h : a < b
  · go_wp2_with fail
    go_ret
    exact ⟨by unfold cmpI; rw [if_pos h]; rfl, rfl⟩
  · by_cases h2 : b < a
    · go_wp2_with fail
      go_ret
      exact ⟨by unfold cmpI; rw [if_neg (by omega), if_pos h2]; rfl, rfl⟩
    · go_wp2_with fail
      go_ret
      exact ⟨by unfold cmpI; rw [if_neg (by omega), if_neg (by omega)]; rfl, rfl⟩
set_option maxRecDepth 100000 in
set_option maxHeartbeats 400000 in
theorem cmpLong_w (a b : Int) (w : World) :
    Calls Tryd.prog 34 #[.agg (longRow a).toArray, .agg (longRow b).toArray] w fun e w' => e = .returned (.int .i64 (cmpI a b)) ∧ w' = (w.alloc (.cells (longRow a).toArray 37)).alloc (.cells (longRow b).toArray 37) := by
  have hc := cmp64_w a b
  obtain ⟨k1, k2, b2⟩ := box2 w (longRow a) (longRow b) 37
  obtain ⟨W, HW⟩ := named ((w.alloc (.cells (longRow a).toArray 37)).alloc (.cells (longRow b).toArray 37))
  go_enter Tryd.func34, Tryd.ntmps34
  go_upto_region 1 with (go_quiet (fail))
  rw [← HW.out] at k1 k2 ⊢
  have x0 : W.cell? ⟨w.heap.size, 0, none⟩ = some (.int .u8 1) := k1.cell 0
  have x2 : W.cell? ⟨w.heap.size, 2, none⟩ = some (.int .i64 a) := k1.cell 2
  have y0 : W.cell? ⟨w.heap.size + 1, 0, none⟩ = some (.int .u8 1) := k2.cell 0
  have y2 : W.cell? ⟨w.heap.size + 1, 2, none⟩ = some (.int .i64 b) := k2.cell 2
  clear k1 k2
  go_wp2_with fail
  refine (hc _).mono ?_
  rintro e w1 ⟨rfl, rfl⟩
  go_wp2_with fail
  go_ret
  exact ⟨rfl, HW.out⟩
end Go.Proofs.YtmnfmgoolimlmaaDoor
