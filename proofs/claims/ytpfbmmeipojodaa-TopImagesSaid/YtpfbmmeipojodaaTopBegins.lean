/- What the statements through the layers ask for first. -/
import Derived.Test.YtpfbmmeipojodaaCrcB
import Derived.Test.YtpfbmmeipojodaaGB
import Derived.Test.YtpfbmmeipojodaaGI
namespace Go.Proofs.Ytpfbmmeipojodaa
open Go.RowKit
open Crc
def nineL : List UInt8 := [49, 50, 51, 52, 53, 54, 55, 56, 57]
theorem nine_sum : (more 0#32 nineL).toNat = 3421780262 := by decide +kernel
theorem nine_w (w : World) : Calls Try.prog 23 #[.string ⟨#[49, 50, 51, 52, 53, 54, 55, 56, 57]⟩] w fun e w' => e = .returned (.int .u32 3421780262) ∧ w = w' := by
  have := sum_w ⟨#[49, 50, 51, 52, 53, 54, 55, 56, 57]⟩ w (by decide)
  rw [show (⟨#[49, 50, 51, 52, 53, 54, 55, 56, 57]⟩ : ByteArray).data.toList = nineL from rfl, nine_sum] at this
  exact this
theorem new1 : newE 1 = 0 ∧ (newD 1).secs.length = 1 ∧ (newD 1).fuse = -1 := by simp [newD, newE]
set_option maxRecDepth 100000 in
set_option maxHeartbeats 1000000 in
theorem begins_w (w : World) : Calls Try.prog 9 #[] w fun e w' => e = .returned (.bool true) ∧ Below w.heap.size w w' := by
  obtain ⟨q1, q2, q3⟩ := new1
  obtain ⟨D, HD⟩ := named (newD 1)
  rw [← HD.out] at q2 q3
  have Q2 := hide q2
  have Q3 := hide q3
  clear q2 q3
  go_enter Try.func9, Try.ntmps9
  go_wp2_with fail
  refine (new_w 1 _ (by decide)).mono ?_
  rw [← HD.out, q1]
  rintro e w1 ⟨v1, rfl, ⟨P, p, Q, q, rfl, t1, u1, l1, m1, f1, g1⟩, hb1⟩
  have B := Box.new w1 ⟨P, p, Q, q, rfl, t1, u1, l1, m1, f1, g1⟩
  have hw1 := bt hb1 (below_alloc w1 (.cells #[.slice P D.secs.length p, .slice Q D.pend.length q, .bool D.off, .int .i64 D.fuse] 28))
  have y0 := (B.blk.cell 0).trans (show some (Value.slice P D.secs.length p) = some (Value.slice P 1 p) by rw [Q2.out])
  have y3 := (B.blk.cell 3).trans (show some (Value.int .i64 D.fuse) = some (Value.int .i64 (-1)) by rw [Q3.out])
  clear t1 u1
  go_wp2_with fail
  refine (nine_w _).mono ?_
  rintro e w2 ⟨rfl, rfl⟩
  go_wp2
  go_ret
  exact ⟨by simp, hw1⟩
end Go.Proofs.Ytpfbmmeipojodaa
