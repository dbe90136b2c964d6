/- What chapter 04 asks for first: the walk. -/
import Derived.Test.YtdgonhmipecjpaaGJ
import Derived.Test.YtdgonhmipecjpaaWalAppend
import Derived.Test.YtdgonhmipecjpaaWalScan
import Derived.Test.YtdgonhmipecjpaaGB
namespace Go.Proofs.Ytdgonhmipecjpaa
set_option linter.unusedSimpArgs false
set_option linter.unusedVariables false
open Go.RowKit Go.Shelf
open Crc
set_option maxRecDepth 100000 in
set_option maxHeartbeats 4000000 in
theorem lives4_w (w : World) : Calls Try.prog 33 #[] w fun e w' => e = .returned (.bool true) ∧ Below w.heap.size w w' := by
  have hnew := new_w 2 w (by decide)
  rw [show newE 2 = 0 by simp [newE]] at hnew
  have happ := fun W v hv => append_w v (newD 2) 0 2 0 frA W hv (by omega) (by omega) (by omega)
  have l1 := live4_app
  have l2 := live4_full
  have happ2 := fun W v hv => append_w v (appD (newD 2) 0 2 0 frA) 0 2 1 frB W hv (by omega) (by omega) (by omega)
  rw [l1.1, l1.2.1] at happ
  rw [l2, show appN (appD (newD 2) 0 2 0 frA) 0 2 1 frB = 0 by simp [appN, l2]] at happ2
  have hsc : ∀ W v, DkIs W v (appD (newD 2) 0 2 0 frA) → Calls Try.prog 30 #[v, .agg #[.int .i64 0, .int .i64 2], .int .u64 7] W fun e w' => (∃ A c, e = .returned (.tuple #[.slice A 1 c, .int .i64 1, .int .i64 0]) ∧ Frames w' A [frA]) ∧ Below W.heap.size W w' := fun W v hv => by
    have h := scan_yes v (appD (newD 2) 0 2 0 frA) 0 2 7 W hv l1.2.2.rt l1.2.2.on (by omega) (by rw [l1.2.2.size]; omega) (by omega)
    rw [l1.2.2.log (by simp)] at h
    exact h
  have hsc8 : ∀ W v, DkIs W v (appD (newD 2) 0 2 0 frA) → Calls Try.prog 30 #[v, .agg #[.int .i64 0, .int .i64 2], .int .u64 8] W fun e w' => (∃ A c, e = .returned (.tuple #[.slice A 0 c, .int .i64 0, .int .i64 0]) ∧ Frames w' A []) ∧ Below W.heap.size W w' := fun W v hv => by
    have h := scan_yes v (appD (newD 2) 0 2 0 frA) 0 2 8 W hv l1.2.2.rt l1.2.2.on (by omega) (by rw [l1.2.2.size]; omega) (by omega)
    rw [l1.2.2.other (oe := 8) (by decide)] at h
    exact h
  obtain ⟨D2, H2⟩ := named (appD (appD (newD 2) 0 2 0 frA) 0 2 1 frB)
  rw [← H2.out] at happ2
  obtain ⟨D1, H1⟩ := named (appD (newD 2) 0 2 0 frA)
  rw [← H1.out] at happ happ2 hsc hsc8
  obtain ⟨D0, H0⟩ := named (newD 2)
  rw [← H0.out] at hnew happ
  rw [show frVal frA = .agg #[.int .u8 1, .int .u64 7, .int .u64 0, .string ⟨#[]⟩] from rfl] at happ
  rw [show frVal frB = .agg #[.int .u8 1, .int .u64 7, .int .u64 1, .string ⟨#[120]⟩] from rfl] at happ2
  clear l1 l2 H2 H1 H0
  go_enter Try.func33, Try.ntmps33
  go_wp2_with fail
  refine hnew.mono ?_
  rintro e w1 ⟨v1, rfl, ⟨A1, c1, B1, e1, rfl, g1, g2, g3, g4, g5, g6⟩, hb1⟩
  have Bd := Box.new w1 ⟨A1, c1, B1, e1, rfl, g1, g2, g3, g4, g5, g6⟩
  have hN : w.heap.size ≤ w1.heap.size := hb1.size
  have hb := bt hb1 (below_alloc w1 (.cells #[.slice A1 D0.secs.length c1, .slice B1 D0.pend.length e1, .bool D0.off, .int .i64 D0.fuse] 49))
  have kr := Blk.new (w1.alloc (.cells #[.slice A1 D0.secs.length c1, .slice B1 D0.pend.length e1, .bool D0.off, .int .i64 D0.fuse] 49)) [.int .i64 0, .int .i64 2] 53
  rw [show (w1.alloc (.cells #[.slice A1 D0.secs.length c1, .slice B1 D0.pend.length e1, .bool D0.off, .int .i64 D0.fuse] 49)).heap.size = w1.heap.size + 1 by simp] at kr
  replace Bd := Bd.alloc (.cells #[.int .i64 0, .int .i64 2] 53)
  replace hb := bt hb (below_alloc _ (.cells #[.int .i64 0, .int .i64 2] 53))
  have xd := Bd.blk.cell
  have xr := kr.cell
  go_wp2_with fail
  obtain ⟨N, HN⟩ := named w1.heap.size
  obtain ⟨W1, HW1⟩ := named ((w1.alloc (.cells #[.slice A1 D0.secs.length c1, .slice B1 D0.pend.length e1, .bool D0.off, .int .i64 D0.fuse] 49)).alloc (.cells #[.int .i64 0, .int .i64 2] 53))
  rw [← HN.out] at Bd hN kr ⊢
  rw [← HW1.out] at Bd hb kr ⊢
  clear HN HW1 xd xr hb1 g1 g2 g3 g4 g5 g6 hnew
  -- appended
  refine (happ _ _ Bd.is).mono ?_
  rintro e w2 ⟨v2, rfl, ⟨A2, c2, B2, e2, rfl, g1, g2, g3, g4, g5, g6⟩, hb2⟩
  replace kr := kr.below hb2
  have By := Bd.below hb2
  have Bz := Box.set (d' := D1) (e1 := c2) (e2 := e2) By g1 g2 g3 g4 g5 g6
  have hbz := below4 (bt hb hb2) hN (.slice A2 D1.secs.length c2) (.slice B2 D1.pend.length e2) (.bool D1.off) (.int .i64 D1.fuse)
  have krz := kr.far4 (by omega : N + 1 ≠ N) (.slice A2 D1.secs.length c2) (.slice B2 D1.pend.length e2) (.bool D1.off) (.int .i64 D1.fuse)
  clear happ g1 g2 g3 g4 g5 g6 hb
  have xd := By.blk.cell
  have fd := By.blk.free
  obtain ⟨W3, HW3⟩ := named ((((w2.setCell ⟨N, 0, none⟩ (.slice A2 D1.secs.length c2)).setCell ⟨N, 1, none⟩ (.slice B2 D1.pend.length e2)).setCell ⟨N, 2, none⟩ (.bool D1.off)).setCell ⟨N, 3, none⟩ (.int .i64 D1.fuse))
  go_upto_region 4 with fail
  rw [← HW3.out]
  replace Bd : Box W3 N A2 c2 B2 e2 D1 := by rw [HW3.out]; exact Bz
  replace hb : Below w.heap.size w W3 := by rw [HW3.out]; exact hbz
  replace kr : Blk W3 (N + 1) [.int .i64 0, .int .i64 2] 53 := by rw [HW3.out]; exact krz
  clear HW3 Bz hbz krz xd fd By hb2
  have xd := Bd.blk.cell
  have xr := kr.cell
  go_wp2_with fail
  clear xd xr
  refine (happ2 _ _ Bd.is).mono ?_
  rintro e w4 ⟨v4, rfl, ⟨A3, c3, B3, e3, rfl, g1, g2, g3, g4, g5, g6⟩, hb4⟩
  replace kr := (kr.below hb4).alloc (.cells #[.slice A3 D2.secs.length c3, .slice B3 D2.pend.length e3, .bool D2.off, .int .i64 D2.fuse] 49)
  replace Bd := (Bd.below hb4).alloc (.cells #[.slice A3 D2.secs.length c3, .slice B3 D2.pend.length e3, .bool D2.off, .int .i64 D2.fuse] 49)
  replace hb := bt (bt hb hb4) (below_alloc w4 (.cells #[.slice A3 D2.secs.length c3, .slice B3 D2.pend.length e3, .bool D2.off, .int .i64 D2.fuse] 49))
  clear happ2 g1 g2 g3 g4 g5 g6 hb4
  have xd := Bd.blk.cell
  have xr := kr.cell
  go_wp2_with fail
  clear xd xr
  refine (hsc _ _ Bd.is).mono ?_
  rintro e w5 ⟨⟨A5, c5, rfl, _⟩, hb5⟩
  replace kr := kr.below hb5
  replace Bd := Bd.below hb5
  replace hb := bt hb hb5
  clear hsc hb5
  have xd := Bd.blk.cell
  have xr := kr.cell
  go_wp2_with fail
  clear xd xr
  refine (hsc8 _ _ Bd.is).mono ?_
  rintro e w6 ⟨⟨A6, c6, rfl, _⟩, hb6⟩
  replace hb := bt hb hb6
  clear hsc8 hb6
  go_wp2
  go_ret
  exact ⟨by simp, hb⟩
end Go.Proofs.Ytdgonhmipecjpaa
