/- The document's burnt. -/
import Derived.Test.YtdgonhmipecjpaaGC
namespace Go.Proofs.Ytdgonhmipecjpaa
open Go.RowKit
set_option maxRecDepth 100000 in
set_option maxHeartbeats 4000000 in
theorem refBurnt_w (A1 A2 : Option Addr) (n1 c1 n2 c2 : Nat) (off : Bool) (f : Int) (w : World) (hf1 : -9223372036854775808 ≤ f) (hf2 : f ≤ 9223372036854775807) :
    Calls Try.prog 113 #[.agg #[.slice A1 n1 c1, .slice A2 n2 c2, .bool off, .int .i64 f]] w fun e w' =>
      e = .returned (.tuple #[.agg #[.slice A1 n1 c1, .slice A2 n2 c2, .bool (if f = 0 then true else off), .int .i64 (if 0 < f then f - 1 else f)], .bool (decide (f ≠ 0))]) ∧ Below w.heap.size w w' := by
  obtain ⟨b0, k1, k2⟩ := two_blk w [.slice A1 n1 c1, .slice A2 n2 c2, .bool off, .int .i64 f] [.slice none 0 0, .slice none 0 0, .bool false, .int .i64 0] 49 49
  have x0 := k1.cell 0
  have x1 := k1.cell 1
  have x2 := k1.cell 2
  have x3 := k1.cell 3
  have y2 := k1.free 2
  have y3 := k1.free 3
  have r0 := k2.cell 0
  have r1 := k2.cell 1
  have r2 := k2.cell 2
  have r3 := k2.cell 3
  have z0 := k2.free 0
  have z1 := k2.free 1
  have z2 := k2.free 2
  have z3 := k2.free 3
  by_cases h0 : f = 0
  · subst h0
    simp only [if_true, Int.lt_irrefl, if_false, ne_eq, not_true_eq_false, decide_false]
    go_enter Try.func113, Try.ntmps113
    go_wp2
    refine bodyPost_ret (v := .tuple #[.agg #[.slice A1 n1 c1, .slice A2 n2 c2, .bool true, .int .i64 0], .bool false]) (by simp [results, Try.results113, go_sem]) rfl ?_
    refine ⟨rfl, ?_⟩
    first | exact bt (below_alloc _ _) (below_alloc _ _) | (repeat' first | exact b0 | refine Below.setCell ?_ (by simp) _)
  · have h0' : (f == 0) = false := by simp [h0]
    simp only [ne_eq, h0, not_false_eq_true, decide_true]
    by_cases hp : 0 < f
    · simp only [if_pos hp]
      go_enter Try.func113, Try.ntmps113
      go_wp2
      refine bodyPost_ret (v := .tuple #[.agg #[.slice A1 n1 c1, .slice A2 n2 c2, .bool off, .int .i64 (f - 1)], .bool true]) (by simp [results, Try.results113, go_sem]) rfl ?_
      refine ⟨rfl, ?_⟩
      first | exact bt (below_alloc _ _) (below_alloc _ _) | (repeat' first | exact b0 | refine Below.setCell ?_ (by simp) _)
    · simp only [if_neg hp]
      have hp' : f < 0 := by omega
      go_enter Try.func113, Try.ntmps113
      go_wp2
      refine bodyPost_ret (v := .tuple #[.agg #[.slice A1 n1 c1, .slice A2 n2 c2, .bool off, .int .i64 f], .bool true]) (by simp [results, Try.results113, go_sem]) rfl ?_
      refine ⟨rfl, ?_⟩
      first | exact bt (below_alloc _ _) (below_alloc _ _) | (repeat' first | exact b0 | refine Below.setCell ?_ (by simp) _)
end Go.Proofs.Ytdgonhmipecjpaa
